/- Walks. -/
import Derived.Test.YtfiibpgoplcgkaaGreatDoorG28SY
import Derived.Test.YtfiibpgoplcgkaaGreatDoorG29SY
import Derived.WideKeyEntry
import Derived.Test.YtfiibpgoplcgkaaGreatDoorG26SY
set_option linter.unusedVariables false
set_option linter.unusedSimpArgs false
set_option maxRecDepth 100000
set_option maxHeartbeats 12800000
namespace Go.Proofs.YtfiibpgoplcgkaaGreatDoor
variable {τ:DM}{n f k0:Int}{e:TE}{u' cnt' k cap:Nat}{α:Type}{bs:List Bt}{ao:Option Addr}
section
open Go.RowKit Go.Maps
def Man.S(m:Man):List UInt8:=(q3S m.nx m.ck m.sd m.L).1
theorem z4L{c:Int}(h:c≠0):q2K c≠0:=by
 rcases z4M c with e|e<;>rw[e]
 ·exact h
 ·decide
theorem z8s{σ:DM}{e:Int}(h:q5h σ n=(none,e,τ)):e≠0:=by
 unfold q5h at h
 split at h
 ·next i=>injection h with _ d;injection d with d _;rw[<-d];exact z4L i
 ·split at h
  ·injection h with _ d;injection d with d _;rw[<-d];decide
  ·split at h
   ·injection h with _ d;injection d with d _;rw[<-d];decide
   ·injection h with i _;cases i
theorem z4s{σ:DM}{e:Int}{L:List En}(h:q5h σ n=(some L,e,τ)):e=0:=by
 unfold q5h at h
 split at h
 ·injection h with d _;cases d
 ·split at h
  ·injection h with d _;cases d
  ·split at h
   ·injection h with d _;cases d
   ·injection h with _ i;injection i with i _;exact i.symm
end
section
open Go.RowKit
abbrev Fls :=List UInt8->Option (List UInt8)
def z9w(φ:Fls)(nm:List UInt8):Fls:=fun x=>if x=nm then none else φ x
def Fl(σ:DM)(c s:Int)(φ:Fls)(u cnt:Nat):Prop:= ∃l,Pl σ c s l/\q3R Prod.fst l/\(∀nm,(q0H Prod.fst nm l).map Prod.snd=φ nm)/\q2b l<=u/\l.length<=cnt
section
variable {σ :DM}{c s:Int}{l:List (List UInt8×List UInt8)}{nm t a b:List UInt8}{x:List UInt8×List UInt8}{φ:Fls}{u cnt:Nat}
theorem Pl.delete(h:Pl σ c s l)(i:q0H Prod.fst nm l=some x): ∃σ',q1Q σ nm=(0,σ')/\Pl σ' c s (q2s Prod.fst nm l):=by
 obtain⟨f,d,rfl⟩:=h.find_some i;refine⟨{q2j σ with L:=q2s FM.nm nm σ.L},?_,h.up,h.fine,?_,h.cap,h.st⟩
 ·unfold q1Q
  rw[κ (by rw[h.up];decide),d,κ (by simp),κ (by rw[h.no];decide)]
 ·rw[<-h.files]
  exact z2z (k:=FM.nm) (k':=Prod.fst) q8Z nm σ.L
theorem Pl.deleteN(h:Pl σ c s l)(d:q0H Prod.fst nm l=none):q1Q σ nm=(4,σ):=by
 unfold q1Q;rw[κ (by rw[h.up];decide),h.find_none d,ξ (by simp)]
theorem q9S(nm:List UInt8)(l:List (List UInt8×List UInt8)):q0H Prod.fst nm (q2s Prod.fst nm l)=none:=q0b fun y d=>(mem_delN.1 d).2
theorem z6B{nm d:List UInt8}(l:List (List UInt8×List UInt8))(j:nm≠d):q0H Prod.fst nm (q2s Prod.fst d l)=q0H Prod.fst nm l:=by
 unfold q0H q2s;rw[List.find?_filter]
 congr 1
 funext y
 by_cases m:y.1=nm
 ·have i:(y.1==nm)=true:=by simpa using m
  have o:(y.1==d)=false:=by rw[m];simpa using j
  rw[i,o];rfl
 ·have i:(y.1==nm)=false:=by simpa using m
  rw[i];simp
theorem z7Y(nm:List UInt8)(l:List (List UInt8×List UInt8)):q2b (q2s Prod.fst nm l)<=q2b l:=by
 unfold q2b q5u q2s
 induction l with
 |nil=>exact ι _
 | cons y r ih=>
  rw[List.filter_cons]
  split
  ·simp only[List.map_cons,List.sum_cons];omega
  ·simp only[List.map_cons,List.sum_cons];omega
theorem z9y(nm:List UInt8)(l:List (List UInt8×List UInt8)):(q2s Prod.fst nm l).length<=l.length:=List.length_filter_le _ _
theorem Fl.find(j: ∀nm,(q0H Prod.fst nm l).map Prod.snd=φ nm)(h:φ nm=some t):q0H Prod.fst nm l=some (nm,t):=by
 have d:=j nm;rw[h] at d
 cases hf:q0H Prod.fst nm l with
 |none=>rw[hf] at d;cases d
 | some y=>
  rw[hf] at d;have i:=(q0P hf).2;injection d with d;rw[<-d,<-i]
theorem Fl.noFind(i: ∀nm,(q0H Prod.fst nm l).map Prod.snd=φ nm)(h:φ nm=none):q0H Prod.fst nm l=none:=by
 have d:=i nm;rw[h] at d
 cases hf:q0H Prod.fst nm l with
 |none=>rfl
 |some y=>rw[hf] at d;cases d
theorem Fl.cut(i: ∀nm,(q0H Prod.fst nm l).map Prod.snd=φ nm)(nm:List UInt8): ∀x,(q0H Prod.fst x (q2s Prod.fst nm l)).map Prod.snd=z9w φ nm x:=fun x=>by
 unfold z9w;by_cases d:x=nm
 ·subst d;rw[ξ rfl,q9S];rfl
 ·rw[κ d,z6B l d];exact i x
theorem Fl.up(h:Fl σ c s φ u cnt):σ.down=false:=by obtain⟨l,d,_⟩:=h;exact d.up
theorem Fl.mono(h:Fl σ c s φ u cnt)(q:u<=u')(r:cnt<=cnt'):Fl σ c s φ u' cnt':=by
 obtain⟨l,d,i,j,m,o⟩:=h;exact⟨l,d,i,j,by omega,by omega⟩
theorem Fl.tell(h:Fl σ c s φ u cnt):Fl (q2S σ) c s φ u cnt:=by
 obtain⟨l,d,i,j,m,o⟩:=h;exact⟨l,d.tell,i,j,m,o⟩
theorem Fl.tells : ∀(k:Nat) {σ:DM},Fl σ c s φ u cnt->Fl (tellN k σ) c s φ u cnt
 |0,_,h=>h
 |k+1,σ,h=>by rw[q1f];exact Fl.tells k h.tell
theorem Fl.del(h:Fl σ c s φ u cnt)(q:φ nm=some t): ∃σ',q1Q σ nm=(0,σ')/\Fl σ' c s (z9w φ nm) u cnt:=by
 obtain⟨l,i,j,d,m,o⟩:=h;obtain⟨σ',e,p⟩:=i.delete (Fl.find d q);exact⟨σ',e,_,p,q9N j,Fl.cut d nm,Ω (z7Y nm l) m,Ω (z9y nm l) o⟩
theorem Fl.wl(h:Fl σ c s φ u cnt){L:List En}(j:φ (q0F 116 n)=some (q8y L)):Wl σ n L:=by
 obtain⟨l,d,m,i,o,q⟩:=h;exact d.wl (Fl.find i j)
end
end
section
open Go.RowKit Go.Maps
theorem q5t{P:Program}{id:Nat}{Q:Exit->Act->World->Prop}{a:Act}{w:World}{l:List Oper}(n:Nat)(hm:P.follows .mixedOrders=true)(i:Region.lexTailB .any l.toArray n=true)
  (h:wpStill P l.toArray w.drew (fun d=>wpList P l.toArray Q (l.drop n) d w.drew) (l.take n) a):(Code.region id l.toArray true).wp P Q a w:=
 wp_region_still_tail n hm i h
section
variable {wb w w1 w2:World}{g gx gm gt:Nat}{st st1:IxSt}{F Y Y1 K K' V:Nat->Prop}{σ σ1:DM}
end
section
variable {wb w w1 w2:World}{g gx gm gt:Nat}{st st1:IxSt}{F Y Y1 K K' V:Nat->Prop}{σ σ1:DM}
end
section
variable {wb w0 w W W1 w1 w2:World}{g gx gm gt B:Nat}{st st1:IxSt}{F Y Y1 K K' V T:Nat->Prop}{σ σ1:DM}{va v v1 v2 vm:Value}{vs:List Value}{ns:List Int}{acc:List (List En)}{M L:List En}
end
end
section
open Go.RowKit
theorem q9y : ∀{a b:List En},q1A a->q1A b->(∀x∈a,x∈b)->a.Sublist b
 |[],b,_,_,_=>List.nil_sublist b
 |x::a,[],_,_,h=>absurd (h x (.head _)) (by simp)
 | x :: a,y::b,ha,hb,h=>by
  obtain⟨m,G⟩:=List.pairwise_cons.1 ha;obtain⟨I,o⟩:=List.pairwise_cons.1 hb;rcases List.mem_cons.1 (h x (.head _)) with e|r
  ·subst e
   refine(q9y G o fun z i=>?_).cons_cons x;rcases List.mem_cons.1 (h z (.tail _ i)) with e|d
   ·have:=m z i
    rw[e,q0e] at this;cases this
   ·exact d
  ·refine(q9y ha o fun z i=>?_).cons y
   rcases List.mem_cons.1 (h z i) with e|d
   ·rcases List.mem_cons.1 i with D|j
    ·rw[D];exact r
    ·have q:=m z j
     have J:=I x r;rw[e] at q;have:=q1R q J;rw[q0e] at this;cases this
   ·exact d
theorem q4d{a b:List En}(d:q1A a)(i:q1A b)(h: ∀x∈a,x∈b):a.length<=b.length:=(q9y d i h).length_le
def TL(st:IxSt)(n:Int):List En:=match st.t n with|some e=>e.L|none=>[]
theorem q3Y{st:IxSt}(h:st.t n=some e):TL st n=e.L:=by unfold TL;rw[h]
structure PInv(st:IxSt)(σ:DM)(c s:Int)(φ:Fls)(u cnt:Nat)(B:List En):Prop where
 fl:Fl σ c s φ u cnt
 man:st.m.ok
 full:st.full
 tb: ∀n e,st.t n=some e->n∈st.m.L.flatten/\φ (q0F 116 n)=some (q8y e.L)/\(∃y,φ (q0F 98 n)=some y)/\okM e.L/\ ∀x∈e.L,e.may x.1=true
 only: ∀nm,φ nm≠none->nm=mapN\/(∃n∈st.m.L.flatten,nm=q0F 116 n\/nm=q0F 98 n)\/ ∃k:Nat,k<=999999/\nm=q0F 99 (k:Int)
 okw:okM st.w
 okB:okM B
 mem: ∀x,x∈B↔x∈st.w\/ ∃n e,st.t n=some e/\x∈e.L
section
variable {st :IxSt}{σ σ':DM}{c s:Int}{φ:Fls}{u cnt:Nat}{B:List En}
theorem PInv.range(h:PInv st σ c s φ u cnt B)(i:n∈st.m.L.flatten):0<=n/\n<=999999/\n<st.m.nx:=by
 have d:=Man.bounds h.man;have:=d.2.2.2.1 n i;omega
theorem PInv.tell(h:PInv st σ c s φ u cnt B)(k:Nat):PInv st (tellN k σ) c s φ u cnt B:=⟨Fl.tells k h.fl,h.man,h.full,h.tb,h.only,h.okw,h.okB,h.mem⟩
theorem PInv.mono(h:PInv st σ c s φ u cnt B)(d:u<=u')(i:cnt<=cnt'):PInv st σ c s φ u' cnt' B:=⟨h.fl.mono d i,h.man,h.full,h.tb,h.only,h.okw,h.okB,h.mem⟩
theorem PInv.wlen(h:PInv st σ c s φ u cnt B):st.w.length<=B.length:=q4d h.okw.sort h.okB.sort fun x d=>(h.mem x).2 (.inl d)
theorem PInv.tlen(h:PInv st σ c s φ u cnt B)(he:st.t n=some e):e.L.length<=B.length:=q4d (h.tb n e he).2.2.2.1.sort h.okB.sort fun x d=>(h.mem x).2 (.inr ⟨n,e,he,d⟩)
theorem PInv.wl(h:PInv st σ c s φ u cnt B)(he:st.t n=some e):Wl σ n e.L:=h.fl.wl (h.tb n e he).2.1
theorem PInv.add(h:PInv st σ c s φ u cnt B){x:En}(i:q3W x=true)(j:B.length<50000):PInv {st with w:=q3d x st.w} σ c s φ u cnt (q3d x B):=by
 have m:=h.wlen;refine⟨h.fl,h.man,h.full,h.tb,h.only,h.okw.add i (by omega),h.okB.add i j,fun y=>?_⟩;show y∈q3d x B↔y∈q3d x st.w\/_;rw[mem_addE,mem_addE,h.mem y]
 constructor
 ·rintro(d|d|d)
  ·exact .inl (.inl d)
  ·exact .inl (.inr d)
  ·exact .inr d
 ·rintro((d|d)|d)
  ·exact .inl d
  ·exact .inr (.inl d)
  ·exact .inr (.inr d)
theorem z1C(h:PInv st σ c s φ u cnt B)(x a b:Int): ∀(ns:List Int) (acc:List (List En)) (k0:Nat),(∀n∈ns,n∈st.m.L.flatten)->
  ∃k,q3c st x (max a 0) (min b 1073741824) (tellN k0 σ) ns acc=(acc++ns.map (fun n=>q0s (TL st n) x (max a 0) (min b 1073741824)),0,tellN k σ)
 |[],acc,k0,_=>⟨k0,by rw[q3c];simp⟩
 | n::ns,acc,k0,hn=>by
  obtain⟨e,he⟩:=h.full n (hn n (by simp));have d:=h.tb n e he;obtain⟨k,_,_,i⟩:=z6s ((h.wl he).tellN k0) d.2.2.2.1.sort d.2.2.2.1.ok d.2.2.2.2 x (max a 0) (min b 1073741824);rw[show max (max a 0) 0=max a 0 by omega,show min (min b 1073741824) 1073741824=min b 1073741824 by omega,q3P] at i;obtain⟨q,j⟩:=z1C h x a b ns (acc++[q0s e.L x (max a 0) (min b 1073741824)]) (k0+k) (fun y o=>hn y (by simp[o]));refine⟨q,?_⟩;rw[q3c,he];simp only;rw[i];simp only;rw[κ (fun h=>h rfl),j,List.map_cons,q3Y he,List.append_assoc]
  rfl
theorem mem_range{L:List En}{x a b:Int}{y:En}:y∈q0s L x a b↔y∈L/\y.1=x/\a<=y.2.1/\y.2.1<=b:=by
 unfold q0s;rw[List.mem_filter];simp only[Ξ,Φ]
 constructor
 ·rintro⟨d,⟨i,j⟩,m⟩;exact⟨d,i,j,m⟩
 ·rintro⟨d,i,j,m⟩;exact⟨d,⟨i,j⟩,m⟩
theorem q4k{L:List En}(h:q1A L)(x a b:Int):q1A (q0s L x a b):=h.filter _
theorem y0s(h:PInv st σ c s φ u cnt B)(n:Int):q1A (TL st n)/\(∀x∈TL st n,q3W x=true)/\(TL st n).length<=B.length:=by
 unfold TL
 cases he:st.t n with
 |none=>exact⟨List.Pairwise.nil,fun x d=>by simp at d,υ _⟩
 |some e=>exact⟨(h.tb n e he).2.2.2.1.sort,(h.tb n e he).2.2.2.1.ok,h.tlen he⟩
theorem z8R{L:List (List En)}(h: ∀l∈L,l.length<=k):L.flatten.length<=L.length*k:=by
 induction L with
 |nil=>simp
 | cons a r ih=>
  rw[List.flatten_cons,θ,χ,Nat.add_mul];have i:=h a (by simp);have j:=ih fun l d=>h l (by simp[d])
  omega
theorem PInv.rangeIs(h:PInv st σ c s φ u cnt B)(x a b:Int): ∃k R,q3c st x (max a 0) (min b 1073741824) σ st.m.L.flatten [q0s st.w x (max a 0) (min b 1073741824)]=(R,0,tellN k σ)/\(∀L∈R,q1A L)/\R.flatten.length<=41*B.length/\q2k R=q0s B x (max a 0) (min b 1073741824):=by
 obtain⟨k,e⟩:=z1C h x a b st.m.L.flatten [q0s st.w x (max a 0) (min b 1073741824)] 0 (fun n o=>o);have r: ∀L∈[q0s st.w x (max a 0) (min b 1073741824)]++st.m.L.flatten.map (fun n=>q0s (TL st n) x (max a 0) (min b 1073741824)),q1A L/\L.length<=B.length:=fun L d=>by
  rcases List.mem_append.1 d with d|d
  ·rw[List.mem_singleton.1 d]
   exact⟨q4k h.okw.sort _ _ _,Ω (List.length_filter_le _ _) h.wlen⟩
  ·obtain⟨n,o,rfl⟩:=List.mem_map.1 d
   have:=y0s h n;exact⟨q4k this.1 _ _ _,Ω (List.length_filter_le _ _) this.2.2⟩
 refine⟨k,_,e,fun L d=>(r L d).1,?_,?_⟩
 ·have j:=z8R fun l D=>(r l D).2
  rw[θ,List.length_map] at j;have q:=(Man.bounds h.man).2.1;simp only[χ,List.length_nil] at j;have:(0+1+st.m.L.flatten.length)*B.length<=41*B.length:=Nat.mul_le_mul_right _ (by omega);omega
 ·refine q6H (q4q _) (q4k h.okB.sort _ _ _) fun y=>?_
  rw[mem_union,mem_range,h.mem y]
  constructor
  ·rintro⟨L,d,i⟩
   rcases List.mem_append.1 d with d|d
   ·rw[List.mem_singleton.1 d,mem_range] at i
    exact⟨.inl i.1,i.2⟩
   ·obtain⟨n,o,rfl⟩:=List.mem_map.1 d
    rw[mem_range] at i;obtain⟨e,he⟩:=h.full n o;rw[q3Y he] at i;exact⟨.inr ⟨n,e,he,i.1⟩,i.2⟩
  ·rintro⟨j|⟨n,e,he,j⟩,q⟩
   ·exact⟨_,List.mem_append.2 (.inl (List.mem_singleton.2 rfl)),mem_range.2 ⟨j,q⟩⟩
   ·exact⟨_,List.mem_append.2 (.inr (List.mem_map.2 ⟨n,(h.tb n e he).1,rfl⟩)),mem_range.2 ⟨by rw[q3Y he];exact j,q⟩⟩
end
theorem z8o{c i:UInt8}(hc:q2D c=true)(j:q2D i=true){m:Int}(q:0<=n/\n<=999999)(hm:0<=m/\m<=999999)(h:q0F c n=q0F i m):c=i/\n=m:=by
 have d:=q2I hc q;rw[h,q2I j hm] at d;injection d with d o;injection o with o _;exact⟨d.symm,by omega⟩
theorem y1l :q2D 116=true:=by decide
theorem y3W :q2D 98=true:=by decide
theorem y3H :q2D 99=true:=by decide
theorem q3j(d:k<=999999):q0F 99 (k:Int)≠mapN/\q0F 99 (k:Int)≠z2D:=by
 rw[q0c (by omega)];exact⟨fun e=>absurd (List.cons.inj e).1 (by decide),fun e=>absurd (List.cons.inj e).1 (by decide)⟩
theorem z3X{c:UInt8}(hc:c=116\/c=98)(d:0<=n/\n<=999999):q0F c n≠mapN/\q0F c n≠z2D:=by
 rw[q0c d];rcases hc with rfl|rfl
 ·exact⟨fun e=>absurd (List.cons.inj e).1 (by decide),fun e=>absurd (List.cons.inj e).1 (by decide)⟩
 ·exact⟨fun e=>absurd (List.cons.inj e).1 (by decide),fun e=>absurd (List.cons.inj e).1 (by decide)⟩
section
variable {st :IxSt}{σ σ':DM}{c s:Int}{φ:Fls}{u cnt:Nat}{B:List En}
theorem PInv.noNew(h:PInv st σ c s φ u cnt B):φ z2D=none:=by
 cases he:φ z2D with
 |none=>rfl
 | some y=>
  exfalso
  rcases h.only z2D (by rw[he];simp) with e|⟨m,hm,e|e⟩|⟨k,d,e⟩
  ·exact z4o e
  ·have i:=h.range hm
   exact(z3X (.inl rfl) (show 0<=m/\m<=999999 by omega)).2 e.symm
  ·have i:=h.range hm
   exact(z3X (.inr rfl) (show 0<=m/\m<=999999 by omega)).2 e.symm
  ·exact(q3j d).2 e.symm
end
section
variable {st :IxSt}{σ σ':DM}{c s:Int}{φ:Fls}{u cnt:Nat}{B:List En}
theorem PInv.unionLe(h:PInv st σ c s φ u cnt B)(ns:List Int):okM (q2k (ns.map (TL st)))/\(q2k (ns.map (TL st))).length<=B.length/\ ∀x∈q2k (ns.map (TL st)),x∈B:=by
 have hm: ∀x∈q2k (ns.map (TL st)),x∈B:=fun x i=>by
  obtain⟨L,j,d⟩:=mem_union.1 i;obtain⟨n,o,rfl⟩:=List.mem_map.1 j;unfold TL at d
  cases he:st.t n with
  |none=>rw[he] at d;simp at d
  |some e=>rw[he] at d;exact(h.mem x).2 (.inr ⟨n,e,he,d⟩)
 have m:=q4d (q4q (ns.map (TL st))) h.okB.sort hm;exact⟨⟨q4q _,fun x i=>h.okB.ok x (hm x i),by have:=h.okB.len;omega⟩,m,hm⟩
def z2l(B:List En)(x u r:Int):Prop:=(∀y∈B,y.1=x->y.2.1<=u->y.2.1<=r)/\((r= -1)\/ ∃y∈B,y.1=x/\y.2.1<=u/\y.2.1=r)
theorem q6i{L:List En}(J:q1A L)(x u:Int):z2l L x u (z5L L x u):=by
 unfold z5L q2y
 cases hl:(L.filter (inE x u)).getLast? with
 | none=>
  have:=List.getLast?_eq_none_iff.1 hl;refine⟨fun y G m o=>?_,.inl rfl⟩;have:y∈L.filter (inE x u):=List.mem_filter.2 ⟨G,by unfold inE;simp[m,o]⟩;rw[List.getLast?_eq_none_iff.1 hl] at this
  cases this
 | some e=>
  have D:=List.mem_of_getLast? hl;obtain⟨N,j⟩:=List.mem_filter.1 D;unfold inE at j;simp only[Ξ,Φ] at j;refine⟨fun y G m o=>?_,.inr ⟨e,N,j.1,j.2,rfl⟩⟩;have i:y∈L.filter (inE x u):=List.mem_filter.2 ⟨G,by unfold inE;simp[m,o]⟩;have d:q1A (L.filter (inE x u)):=J.filter _;obtain⟨l,r⟩:=List.getLast?_eq_some_iff.1 hl;rw[r] at i d;rcases List.mem_append.1 i with q|q
  ·have I:=(List.pairwise_append.1 d).2.2 y q e (by simp)
   rw[lessE_iff] at I;show y.2.1<=e.2.1;omega
  ·rw[List.mem_singleton.1 q];exact Int.le_refl _
end
structure To where
 s:List UInt8
 v:Int
 e:Ev
def to0 :To:=⟨[],0,ev0⟩
def q4L(s:List UInt8):Nat->List Ev->List To
 |_,[]=>[]
 |i,e::r=>⟨s,(i:Int),e⟩::q4L s (i+1) r
def y2w(b:Bt):List To:=q4L b.st b.fi b.ev
def tos(bs:List Bt):List To:=(bs.map y2w).flatten
def q0R(bs:List Bt)(s:List UInt8):List Ev:=((bs.filter fun b=>decide (b.st=s)).map Bt.ev).flatten
def q4G(bs:List Bt)(s:List UInt8):List To:=q4L s 0 (q0R bs s)
def okBs(bs:List Bt):Prop:= ∀l b r,bs=l++b::r->z2G b/\b.fi=(q0R l b.st).length
theorem q9w{P:List α->Prop}(h0:P [])(h1: ∀l a,P l->P (l++[a]))(l:List α):P l:=by
 have h : ∀n,∀l:List α,l.length=n->P l:=fun n=>by
  induction n with
  |zero=>intro l hl;rw[List.length_eq_zero_iff.1 hl];exact h0
  | succ n ih=>
   intro l hl;rcases List.eq_nil_or_concat l with e|⟨m,a,e⟩
   ·rw[e] at hl;simp at hl
   ·rw[List.concat_eq_append] at e
    subst e;exact h1 m a (ih m (by simpa using hl))
 exact h _ l rfl
theorem q1b(s:List UInt8): ∀(L:List Ev) (i:Nat),(q4L s i L).length=L.length
 |[],_=>rfl
 |e::r,i=>by rw[q4L,χ,q1b s r,χ]
theorem q3y(s:List UInt8): ∀(a b:List Ev) (i:Nat),q4L s i (a++b)=q4L s i a++q4L s (i+a.length) b
 |[],b,i=>rfl
 | e::r,b,i=>by
  rw[List.cons_append,q4L,q3y s r b,q4L,List.cons_append,χ]
  congr 3;omega
theorem numT_mem{s:List UInt8}{t:To}: ∀{L:List Ev} {i:Nat},t∈q4L s i L↔ ∃k,k<L.length/\t=⟨s,((i+k:Nat):Int),L.getD k ev0⟩
 |[],i=>by simp[q4L]
 | e ::r,i=>by
  rw[q4L,List.mem_cons,numT_mem]
  constructor
  ·rintro(h|⟨k,j,d⟩)
   ·exact⟨0,by simp,by rw[h];rfl⟩
   ·exact⟨k+1,by simpa using j,by rw[d,List.getD_cons_succ];congr 2;omega⟩
  ·rintro⟨k,j,d⟩
   cases k with
   |zero=>exact .inl d
   |succ k=>exact .inr ⟨k,by simpa using j,by rw[d,List.getD_cons_succ];congr 2;omega⟩
theorem q5g(s:List UInt8): ∀(L:List Ev) (i k:Nat),k<L.length->(q4L s i L).getD k to0=⟨s,((i+k:Nat):Int),L.getD k ev0⟩
 |[],i,k,h=>by simp at h
 |e::r,i,0,_=>rfl
 | e::r,i,k+1,h=>by
  rw[q4L,List.getD_cons_succ,q5g s r _ k (by simpa using h),List.getD_cons_succ]
  congr 2;omega
theorem q6E(s:List UInt8)(a b:Int): ∀(L:List Ev) (i:Nat),(q4L s i L).filter (fun t=>decide (a<=t.v/\t.v<=b))=((q4L s i L).drop (a-(i:Int)).toNat).take ((b+1-(i:Int)).toNat-(a-(i:Int)).toNat)
 |[],i=>by simp[q4L]
 | e ::r,i=>by
  have d:=q6E s a b r (i+1);rw[q4L];by_cases o:a<=(i:Int)
  ·have j:(a-(i:Int)).toNat=0:=by omega
   have m:(a-((i+1:Nat):Int)).toNat=0:=by omega
   rw[j,List.drop_zero,Nat.sub_zero];rw[m,List.drop_zero,Nat.sub_zero] at d;by_cases q:(i:Int)<=b
   ·rw[List.filter_cons_of_pos (by simp;omega),d,show(b+1-(i:Int)).toNat=(b+1-((i+1:Nat):Int)).toNat+1 by omega,List.take_succ_cons]
   ·rw[List.filter_cons_of_neg (by simp;omega),d,show(b+1-(i:Int)).toNat=0 by omega,show(b+1-((i+1:Nat):Int)).toNat=0 by omega,List.take_zero,List.take_zero]
  ·have j:(a-(i:Int)).toNat=(a-((i+1:Nat):Int)).toNat+1:=by omega
   rw[List.filter_cons_of_neg (by simp;omega),d,j,List.drop_succ_cons]
   congr 1
   omega
theorem z6b(s:List UInt8): ∀(L:List Ev) (i:Nat),(q4L s i L).Pairwise fun x y=>x.v<y.v
 |[],_=>List.Pairwise.nil
 | e ::r,i=>List.pairwise_cons.2 ⟨fun t d=>by
   obtain⟨k,_,rfl⟩:=numT_mem.1 d
   simp only;omega,z6b s r _⟩
theorem q2Y(a b:List Bt):tos (a++b)=tos a++tos b:=by unfold tos;rw[List.map_append,List.flatten_append]
theorem q6J(b:Bt):tos [b]=y2w b:=by unfold tos;simp
theorem q4C(b:Bt):(y2w b).length=b.ev.length:=q1b _ _ _
theorem q8Y(bs:List Bt)(b:Bt)(s:List UInt8):q0R (bs++[b]) s=if b.st=s then q0R bs s++b.ev else q0R bs s:=by
 unfold q0R;rw[List.filter_append,List.map_append,List.flatten_append]
 split
 ·rename_i h;rw[List.filter_cons_of_pos (by simpa using h)];simp
 ·rename_i h;rw[List.filter_cons_of_neg (by simpa using h)];simp
theorem okBs.nil :okBs []:=fun l b r h=>by simp at h
theorem okBs_snoc{b:Bt}:okBs (bs++[b])↔okBs bs/\z2G b/\b.fi=(q0R bs b.st).length:=by
 constructor
 ·intro h
  exact⟨fun l c r e=>h l c (r++[b]) (by rw[e];simp),h bs b [] rfl⟩
 ·rintro⟨q,y⟩ l c r e
  rcases List.eq_nil_or_concat r with i|⟨o,d,i⟩
  ·subst i
   obtain⟨j,m⟩:=List.append_inj' e rfl;rw[<-j];injection m with m;subst m;exact y
  ·rw[List.concat_eq_append] at i
   subst i;have e':bs++[b]=(l++c::o)++[d]:=by rw[e];simp
   obtain⟨j,_⟩:=List.append_inj' e' rfl;exact q l c o j
theorem q4B(h:okBs bs)(s:List UInt8):(tos bs).filter (fun t=>decide (t.s=s))=q4G bs s:=by
 revert h
 induction bs using q9w with
 |h0=>intro _;rfl
 | h1 l b ih=>
  intro h;obtain⟨h1,m,j⟩:=okBs_snoc.1 h;unfold q4G;rw[q2Y,List.filter_append,ih h1,q6J,q8Y];by_cases d:b.st=s
  ·rw [ξ d,q3y,Nat.zero_add,<-d,<-j,List.filter_eq_self.2]
   ·rfl
   ·intro t i
    obtain⟨k,_,rfl⟩:=numT_mem.1 i;simp
  ·rw [κ d,List.filter_eq_nil_iff.2,List.append_nil]
   ·rfl
   ·intro t i
    obtain⟨k,_,rfl⟩:=numT_mem.1 i
    simpa using d
theorem y0Y{t:To}:t∈tos bs↔ ∃b∈bs,∃k,k<b.ev.length/\t=⟨b.st,((b.fi+k:Nat):Int),b.ev.getD k ev0⟩:=by
 unfold tos;rw[List.mem_flatten]
 constructor
 ·rintro⟨l,j,m⟩
  obtain⟨b,d,rfl⟩:=List.mem_map.1 j;exact⟨b,d,numT_mem.1 m⟩
 ·rintro⟨b,d,i⟩
  exact⟨_,List.mem_map.2 ⟨b,d,rfl⟩,numT_mem.2 i⟩
theorem okBs.each(h:okBs bs){b:Bt}(d:b∈bs):z2G b:=by
 obtain⟨l,r,rfl⟩:=List.append_of_mem d;exact(h l b r rfl).1
theorem q6R(a b:List Bt)(s:List UInt8):q0R (a++b) s=q0R a s++q0R b s:=by
 unfold q0R;rw[List.filter_append,List.map_append,List.flatten_append]
theorem okBs.apart{l m r:List Bt}{b c:Bt}(h:okBs (l++b::m++c::r))(j:b.st=c.st):b.fi+b.ev.length<=c.fi:=by
 have d:=h l b (m++c::r) (by simp);have i:=h (l++b::m) c r (by simp);rw[i.2,d.2,q6R,θ,show b::m=[b]++m from rfl,q6R,θ,<-j];have:(q0R [b] b.st).length=b.ev.length:=by unfold q0R;simp
 omega
theorem y2K{l m:List To}(G:l.Pairwise fun x y=>x.v<y.v)(hm:m.Pairwise fun x y=>x.v<y.v)(h: ∀t,t∈l↔t∈m):l=m:=by
 induction l generalizing m with
 | nil=>
  cases m with
  |nil=>rfl
  |cons y m=>exact absurd ((h y).2 (.head _)) (by simp)
 | cons x l ih=>
  cases m with
  |nil=>exact absurd ((h x).1 (.head _)) (by simp)
  | cons y m=>
   obtain⟨o,r⟩:=List.pairwise_cons.1 G;obtain⟨q,D⟩:=List.pairwise_cons.1 hm;have j:x=y:=by
    rcases List.mem_cons.1 ((h x).1 (.head _)) with e|I
    ·exact e
    rcases List.mem_cons.1 ((h y).2 (.head _)) with e|J
    ·exact e.symm
    have a:=o y J;have b:=q x I;omega
   subst j;rw[ih r D fun t=>?_]
   constructor
   ·intro i
    rcases List.mem_cons.1 ((h t).1 (.tail _ i)) with e|d
    ·have:=o t i;rw[e] at this;omega
    ·exact d
   ·intro i
    rcases List.mem_cons.1 ((h t).2 (.tail _ i)) with e|d
    ·have:=q t i;rw[e] at this;omega
    ·exact d
abbrev Pbs :=List (Nat×Bt)
def q9q(P:Pbs):List (Nat×List UInt8):=P.map fun x=>(x.1,btB x.2)
def q4U(sd:Int)(P:Pbs):List En:=(P.map fun x=>q0g sd x.1 x.2 x.2.ev.length).flatten
def q1a(P:Pbs):List Bt:=P.map Prod.snd
def q2O(P:Pbs)(s:List UInt8)(x:En):Option To:=
 match P.find? (fun y=>decide ((y.1:Int)=x.2.2)) with
 |none=>none
 |some y=>if y.2.st=s/\(y.2.fi:Int)<=x.2.1/\x.2.1<(y.2.fi:Int)+(y.2.ev.length:Int) then some ⟨s,x.2.1,y.2.ev.getD (x.2.1-(y.2.fi:Int)).toNat ev0⟩ else none
structure StI(sd:Int)(B:List En)(P:Pbs):Prop where
 ok:okBs (q1a P)
 pos:P.Pairwise fun a b=>a.1<b.1
 ents: ∀x,x∈B↔x∈q4U sd P
theorem z1G(sd:Int): ∀{P:Pbs},(∀y∈P,z2G y.2)->z1X sd (q9q P)=some (q4U sd P)
 |[],_=>rfl
 | y::P,h=>by
  have d:=z1G sd (P:=P) fun z j=>h z (.tail _ j)
  have i:=z1q y.2 (h y (.head _));unfold q9q at d⊢;rw[List.map_cons,z1X,i,Option.bind_some,d]
  rfl
theorem mem_entsP{sd:Int}{P:Pbs}{x:En}:x∈q4U sd P↔ ∃y∈P,∃k,k<y.2.ev.length/\x=q2e sd y.1 y.2 k:=by
 unfold q4U;rw[List.mem_flatten]
 constructor
 ·rintro⟨l,m,j⟩
  obtain⟨y,i,rfl⟩:=List.mem_map.1 m;unfold q0g at j;obtain⟨k,d,rfl⟩:=List.mem_map.1 j;exact⟨y,i,k,List.mem_range.1 d,rfl⟩
 ·rintro⟨y,i,k,d,rfl⟩
  exact⟨_,List.mem_map.2 ⟨y,i,rfl⟩,by unfold q0g;exact List.mem_map.2 ⟨k,List.mem_range.2 d,rfl⟩⟩
theorem z3J : ∀{P:Pbs},P.Pairwise (fun a b=>a.1<b.1)-> ∀{y:Nat×Bt},y∈P->P.find? (fun z=>decide ((z.1:Int)=(y.1:Int)))=some y
 |[],_,y,h=>by cases h
 | z ::P,hp,y,h=>by
  obtain⟨d,i⟩:=List.pairwise_cons.1 hp;rcases List.mem_cons.1 h with rfl|h
  ·rw[List.find?_cons_of_pos (by simp)]
  ·rw[List.find?_cons_of_neg (by have:=d y h;simp;omega)]
   exact z3J i h
section
variable {sd :Int}{B:List En}{P:Pbs}
theorem q5b(h:P.Pairwise fun a b=>a.1<b.1){y:Nat×Bt}(i:y∈P)(j:k<y.2.ev.length)(s:List UInt8):q2O P s (q2e sd y.1 y.2 k)=if y.2.st=s then some ⟨s,((y.2.fi+k:Nat):Int),y.2.ev.getD k ev0⟩ else none:=by
 unfold q2O q2e;simp only;rw[z3J h i];simp only;by_cases d:y.2.st=s
 ·rw[ξ d,ξ ⟨d,by omega,by omega⟩,show((y.2.fi:Int)+(k:Int)-(y.2.fi:Int)).toNat=k by omega]
  congr 1
 ·rw[κ d,κ fun h=>d h.1]
theorem StI.found(h:StI sd B P){s:List UInt8}{x:En}(G:x∈B){t:To}:q2O P s x=some t↔ ∃y∈P,∃k,k<y.2.ev.length/\x=q2e sd y.1 y.2 k/\y.2.st=s/\t=⟨s,((y.2.fi+k:Nat):Int),y.2.ev.getD k ev0⟩:=by
 obtain⟨y,o,k,i,rfl⟩:=mem_entsP.1 ((h.ents x).1 G);rw[q5b h.pos o i]
 constructor
 ·intro d
  split at d
  ·rename_i m
   injection d with d;exact⟨y,o,k,i,rfl,m,d.symm⟩
  ·cases d
 ·rintro⟨z,I,j,D,he,m,rfl⟩
  have r:=q5b (sd:=sd) h.pos o i s;have q:=q5b (sd:=sd) h.pos I D s;rw[<-he,r,ξ m] at q;exact q
theorem StI.mem_str(h:StI sd B P){s:List UInt8}{t:To}:t∈q4G (q1a P) s↔ ∃y∈P,∃k,k<y.2.ev.length/\y.2.st=s/\t=⟨s,((y.2.fi+k:Nat):Int),y.2.ev.getD k ev0⟩:=by
 rw[<-q4B h.ok,List.mem_filter,y0Y]
 constructor
 ·rintro⟨⟨b,m,k,i,rfl⟩,d⟩
  obtain⟨y,j,rfl⟩:=List.mem_map.1 m;simp only[Φ] at d;exact⟨y,j,k,i,d,by rw[d]⟩
 ·rintro⟨y,j,k,i,d,rfl⟩
  exact⟨⟨y.2,List.mem_map.2 ⟨y,j,rfl⟩,k,i,by rw[d]⟩,by simp⟩
theorem StI.between(h:StI sd B P)(hB:q1A B)(s:List UInt8)(a b:Int):(q0s B (q2V sd s) a b).filterMap (q2O P s)=(q4G (q1a P) s).filter fun t=>decide (a<=t.v/\t.v<=b):=by
 refine y2K ?_ ((z6b _ _ _).filter _) fun t=>?_
 ·rw [List.pairwise_filterMap]
  refine List.Pairwise.imp_of_mem ?_ (q4k hB (q2V sd s) a b);intro x y N O d t Z u hu;obtain⟨G,a0,I,J⟩:=mem_range.1 N;obtain⟨b0,c0,d0,e0⟩:=mem_range.1 O;obtain⟨p,hp,i,hi,rfl,Q,rfl⟩:=(h.found G).1 Z;obtain⟨q,hq,j,hj,rfl,R,rfl⟩:=(h.found b0).1 hu;rw[lessE_iff] at d;unfold q2e at d;simp only at d⊢;rw[Q,R] at d;rcases d with d|⟨_,d|⟨he,X⟩⟩
  ·omega
  ·omega
  ·exfalso
   obtain⟨l,r,hl⟩:=List.append_of_mem hp;have o:=h.ok;have D:=h.pos;rw[hl] at o D hq;rcases List.mem_append.1 hq with hq|hq
   ·have:=(List.pairwise_append.1 D).2.2 q hq p (.head _)
    omega
   ·rcases List.mem_cons.1 hq with hq|hq
    ·rw[hq] at X;omega
    ·obtain⟨m,r2,hm⟩:=List.append_of_mem hq
     rw[hm] at o;unfold q1a at o;rw[List.map_append,List.map_cons,List.map_append,List.map_cons] at o;have:=okBs.apart (l:=l.map Prod.snd) (b:=p.2) (m:=m.map Prod.snd) (c:=q.2) (r:=r2.map Prod.snd) (by rw[List.append_assoc,List.cons_append];exact o) (by rw[Q,R]);omega
 ·rw [List.mem_filterMap,List.mem_filter,h.mem_str,Φ]
  constructor
  ·rintro⟨x,N,Z⟩
   obtain⟨G,a0,I,J⟩:=mem_range.1 N;obtain⟨y,O,k,S,rfl,U,rfl⟩:=(h.found G).1 Z;unfold q2e at I J;simp only at I J⊢;exact⟨⟨y,O,k,S,U,rfl⟩,by omega,by omega⟩
  ·rintro⟨⟨y,O,k,S,U,rfl⟩,h1,h2⟩
   simp only at h1 h2;have N:q2e sd y.1 y.2 k∈B:=(h.ents _).2 (mem_entsP.2 ⟨y,O,k,S,rfl⟩);refine⟨q2e sd y.1 y.2 k,mem_range.2 ⟨N,?_,?_,?_⟩,(h.found N).2 ⟨y,O,k,S,rfl,U,rfl⟩⟩
   ·unfold q2e;simp only;rw[U]
   ·unfold q2e;simp only;omega
   ·unfold q2e;simp only;omega
theorem q1L(bs:List Bt)(s:List UInt8):(q4G bs s).length=(q0R bs s).length:=q1b _ _ _
theorem StI.has(h:StI sd B P){s:List UInt8}{v:Nat}(m:v<(q0R (q1a P) s).length): ∃x∈B,x.1=q2V sd s/\x.2.1=(v:Int):=by
 have j:(⟨s,((0+v:Nat):Int),(q0R (q1a P) s).getD v ev0⟩:To)∈q4G (q1a P) s:=numT_mem.2 ⟨v,m,rfl⟩;obtain⟨y,o,k,d,i,he⟩:=h.mem_str.1 j;injection he with _ he _;refine⟨q2e sd y.1 y.2 k,(h.ents _).2 (mem_entsP.2 ⟨y,o,k,d,rfl⟩),?_,?_⟩
 ·unfold q2e;simp only;rw[i]
 ·unfold q2e;simp only;omega
theorem StI.last(h:StI sd B P)(I:okM B){s:List UInt8}{u r:Int}(X:((q0R (q1a P) s).length:Int)-1<=u)(j:z2l B (q2V sd s) u r):
  ((q0R (q1a P) s).length:Int)-1<=r/\ -1<=r/\(r<0->q0R (q1a P) s=[])/\(0<=r->(q4G (q1a P) s).filter (fun t=>decide (r<=t.v/\t.v<=r))=[]->((q0R (q1a P) s).length:Int)-1<=r-1)/\
   ((q4G (q1a P) s).filter (fun t=>decide (r<=t.v/\t.v<=r))≠[]->((q0R (q1a P) s).length:Int)-1=r):=by
 have o: -1<=r:=by
  rcases j.2 with e|⟨y,R,_,_,e⟩
  ·omega
  ·have:=okEn_iff.1 (I.ok y R);omega
 have q:((q0R (q1a P) s).length:Int)-1<=r:=by
  rcases Nat.eq_zero_or_pos (q0R (q1a P) s).length with e|e
  ·omega
  ·obtain⟨x,Q,m,S⟩:=h.has (s:=s) (v:=(q0R (q1a P) s).length-1) (by omega)
   have:=j.1 x Q m (by omega);omega
 refine⟨q,o,fun O=>?_,fun O he=>?_,fun d=>?_⟩
 ·exact List.length_eq_zero_iff.1 (by omega)
 ·rcases Int.lt_or_le (((q0R (q1a P) s).length:Int)-1) r with N|J
  ·omega
  ·exfalso
   have i:(⟨s,((0+r.toNat:Nat):Int),(q0R (q1a P) s).getD r.toNat ev0⟩:To)∈q4G (q1a P) s:=numT_mem.2 ⟨r.toNat,by omega,rfl⟩;have:=(List.mem_filter (p:=fun t:To=>decide (r<=t.v/\t.v<=r))).2 ⟨i,by simp;omega⟩;rw[he] at this
   cases this
 ·obtain⟨t,i⟩:=List.exists_mem_of_ne_nil _ d
  obtain⟨D,G⟩:=List.mem_filter.1 i;obtain⟨k,U,rfl⟩:=numT_mem.1 D;simp only[Φ] at G;omega
end
theorem z4a(sd:Int)(P:Pbs)(p:Nat)(b:Bt):q4U sd (P++[(p,b)])=q4U sd P++q0g sd p b b.ev.length:=by
 unfold q4U;rw[List.map_append,List.flatten_append];simp
theorem q3e(P:Pbs)(p:Nat)(b:Bt):q1a (P++[(p,b)])=q1a P++[b]:=by unfold q1a;rw[List.map_append];rfl
theorem mem_addEs{x:En}: ∀{es L:List En},x∈q1V es L↔x∈es\/x∈L
 |[],L=>by unfold q1V;simp
 | e ::es,L=>by
  have h:=mem_addEs (x:=x) (es:=es) (L:=q3d e L);unfold q1V at*;rw[List.foldl_cons,h,mem_addE,List.mem_cons]
  constructor
  ·rintro(h|h|h)
   ·exact .inl (.inr h)
   ·exact .inl (.inl h)
   ·exact .inr h
  ·rintro((h|h)|h)
   ·exact .inr (.inl h)
   ·exact .inl h
   ·exact .inr (.inr h)
theorem StI.snoc{sd:Int}{B:List En}{P:Pbs}(h:StI sd B P){p:Nat}{b:Bt}(i:z2G b)(j:b.fi=(q0R (q1a P) b.st).length)(m: ∀y∈P,y.1<p):StI sd (q1V (q0g sd p b b.ev.length) B) (P++[(p,b)]):=by
 refine⟨by rw[q3e];exact okBs_snoc.2 ⟨h.ok,i,j⟩,?_,fun x=>?_⟩
 ·rw[List.pairwise_append]
  exact⟨h.pos,List.pairwise_singleton _ _,fun a d c hc=>by obtain rfl:=List.mem_singleton.1 hc;exact m a d⟩
 ·rw[mem_addEs,z4a,List.mem_append,h.ents]
  exact Or.comm
theorem q6Q(sd:Int)(P:Pbs):(q4U sd P).length=(tos (q1a P)).length:=by
 unfold q4U tos q1a;rw[List.length_flatten,List.length_flatten,List.map_map,List.map_map,List.map_map]
 congr 1
 refine List.map_congr_left fun x _=>?_
 simp only[Function.comp];rw[q3r,q4C]
theorem StI.len{sd:Int}{B:List En}{P:Pbs}(h:StI sd B P)(i:q1A B):B.length<=(tos (q1a P)).length:=by
 rw[<-q6Q sd];have j:B.Nodup:=i.imp fun {a b} d e=>by rw[e,q0e] at d;cases d
 exact nodup_leB j fun x m=>(h.ents x).1 m
where nodup_leB {α:Type} [DecidableEq α]: ∀{l m:List α},l.Nodup->(∀x∈l,x∈m)->l.length<=m.length
 |[],_,_,_=>υ _
 | x::l,m,h,hm=>by
  obtain⟨h1,h2⟩:=List.nodup_cons.1 h;have hx:=hm x (.head _);have h3:=nodup_leB (m:=m.erase x) h2 fun y hy=>(List.mem_erase_of_ne (fun e:y=x=>h1 (by rw[<-e];exact hy))).2 (hm y (.tail _ hy))
  rw[List.length_erase_of_mem hx] at h3;have:=List.length_pos_of_mem hx;rw[χ];omega
def q5B(L:List To)(from_ count:Int):List To:=(L.drop from_.toNat).take count.toNat
def z0y(L:List To)(from_ count:Int):List To:=(L.drop (from_-count+1).toNat).take ((from_+1).toNat-(from_-count+1).toNat)
theorem y0g(bs:List Bt)(s:List UInt8){c:Int}(d:0<=f)(hc:1<=c)(i:(q0R bs s).length<=1073741824):(q4G bs s).filter (fun t=>decide (max f 0<=t.v/\t.v<=min (f+min c 1073741824-1) 1073741824))=q5B (q4G bs s) f c:=by
 unfold q4G q5B;rw[q6E,show(max f 0-((0:Nat):Int)).toNat=f.toNat by omega];rcases Int.lt_or_le (f+c-1) 1073741824 with h|h
 ·rw[show(min (f+min c 1073741824-1) 1073741824+1-((0:Nat):Int)).toNat-f.toNat=c.toNat by omega]
 ·rw[Δ,Δ]
  ·rw[List.length_drop,q1b];omega
  ·rw[List.length_drop,q1b];omega
theorem z6l(bs:List Bt)(s:List UInt8){c:Int}(d:0<=f)(hc:1<=c)(i:(q0R bs s).length<=1073741824):(q4G bs s).filter (fun t=>decide (max (f-c+1) 0<=t.v/\t.v<=min f 1073741824))=z0y (q4G bs s) f c:=by
 unfold q4G z0y;rw[q6E,show(max (f-c+1) 0-((0:Nat):Int)).toNat=(f-c+1).toNat by omega];rcases Int.le_total f 1073741824 with h|h
 ·rw[show(min f 1073741824+1-((0:Nat):Int)).toNat=(f+1).toNat by omega]
 ·rw[Δ,Δ]
  ·rw[List.length_drop,q1b];omega
  ·rw[List.length_drop,q1b];omega
theorem z6k{L:List To}{c:Int}(h:(L.length:Int)<=f):q5B L f c=[]:=by
 unfold q5B;rw[List.drop_eq_nil_of_le (by omega),List.take_nil]
def y1H(φ:Fls)(C:Cks):Prop:= ∀k:Nat,k<=999999->φ (q0F 99 (k:Int))=(C[k]?).map (q0W k)
structure CksS(φ:Fls)(σ:DM)(C:Cks)(k:Int):Prop where
 i:y1H φ C
 sr:Sur σ.L C.length k
 le:k<=q3f C
def OldT(st:IxSt):Prop:= ∀n e,st.t n=some e-> ∀x∈e.L,x.2.2<st.m.ck
theorem OldT.tl{st:IxSt}(h:OldT st){x:En}(d:x∈TL st n):x.2.2<st.m.ck:=by
 unfold TL at d
 split at d
 ·rename_i e he;exact h n e he x d
 ·cases d
structure z9g(st:IxSt)(φ:Fls)(σ:DM)(C:Cks)(k:Int):Prop extends CksS φ σ C k where
 old:OldT st
def q9E(φ:Fls)(m:Man):Prop:=(φ mapN=some m.S/\0<m.nx)\/(φ mapN=none/\m.nx=0/\m.ck=0/\m.L=[])
def y2B(nm:List UInt8):Prop:= ∀k:Nat,k<=999999->nm≠q0F 99 (k:Int)
theorem z6g : ∀{a b:List (List UInt8×List UInt8)},q3R Prod.fst a->q3R Prod.fst b->(∀z,z∈a↔z∈b)->a=b
 |[],[],_,_,_=>rfl
 |[],y::b,_,_,h=>absurd ((h y).2 (.head _)) (by simp)
 |x::a,[],_,_,h=>absurd ((h x).1 (.head _)) (by simp)
 | x ::a,y::b,ha,hb,h=>by
  obtain⟨m,q⟩:=List.pairwise_cons.1 ha;obtain⟨o,r⟩:=List.pairwise_cons.1 hb;have j:x=y:=by
   rcases List.mem_cons.1 ((h x).1 (.head _)) with e|D
   ·exact e
   rcases List.mem_cons.1 ((h y).2 (.head _)) with e|G
   ·exact e.symm
   have:=WideShapes.bytes_trans _ _ _ (m y G) (o x D);rw[WideAt.bytes_irrefl] at this;cases this
  subst j;rw[z6g q r fun z=>?_]
  constructor
  ·intro i
   rcases List.mem_cons.1 ((h z).1 (.tail _ i)) with e|d
   ·have:=m z i;rw[e,WideAt.bytes_irrefl] at this;cases this
   ·exact d
  ·intro i
   rcases List.mem_cons.1 ((h z).2 (.tail _ i)) with e|d
   ·have:=o z i;rw[e,WideAt.bytes_irrefl] at this;cases this
   ·exact d
theorem z3W{l:List (List UInt8×List UInt8)}(h:q3R Prod.fst l)(z:List UInt8×List UInt8):z∈l↔(q0H Prod.fst z.1 l).map Prod.snd=some z.2:=by
 constructor
 ·intro d;rw[q4g h d rfl];rfl
 ·intro d
  cases hf:q0H Prod.fst z.1 l with
  |none=>rw[hf] at d;cases d
  | some y=>
   rw[hf] at d;injection d with d;obtain⟨i,j⟩:=q0P hf;have:y=z:=Prod.ext j d
   rwa [this] at i
theorem z8u{a b:List (List UInt8×List UInt8)}(d:q3R Prod.fst a)(i:q3R Prod.fst b)(h: ∀nm,(q0H Prod.fst nm a).map Prod.snd=(q0H Prod.fst nm b).map Prod.snd):a=b:=
 z6g d i fun z=>by rw[z3W d,z3W i,h]
theorem q9n{r:α->α->Prop}{p:α->Bool}(j: ∀x y,r x y->p y=true->p x=true): ∀{l:List α},l.Pairwise r->l=l.filter p++l.filter (fun y=>!p y)
 |[],_=>rfl
 | x :: l,h=>by
  obtain⟨m,o⟩:=List.pairwise_cons.1 h
  cases hx:p x with
  | true=>
   rw[List.filter_cons_of_pos hx,List.filter_cons_of_neg (by simp[hx]),List.cons_append,<-q9n j o]
  | false=>
   have i: ∀y∈l,p y=false:=fun y d=>by
    cases hy2:p y with
    |false=>rfl
    |true=>rw[j x y (m y d) hy2] at hx;cases hx
   rw [List.filter_cons_of_neg (by simp[hx]),List.filter_cons_of_pos (by simp[hx]),List.filter_eq_nil_iff.2 fun y d=>by simp[i y d],List.nil_append,
    List.filter_eq_self.2 fun y d=>by simp[i y d]]
theorem q6k{α:Type}[DecidableEq α]: ∀{l m:List α},l.Nodup->(∀x∈l,x∈m)->l.length<=m.length
 |[],_,_,_=>υ _
 | x::l,m,h,hm=>by
  obtain⟨j,o⟩:=List.nodup_cons.1 h;have d:=hm x (.head _);have q:=q6k (m:=m.erase x) o fun y i=>(List.mem_erase_of_ne (fun e:y=x=>j (by rw[<-e];exact i))).2 (hm y (.tail _ i))
  rw[List.length_erase_of_mem d] at q;have:=List.length_pos_of_mem d;rw[χ];omega
theorem q5P(i:k<=999999):bytesBefore [99] (q0F 99 (k:Int))=true/\bytesBefore (q0F 99 (k:Int)) [100]=true/\bytesBefore (q0F 99 (k:Int)) [99]=false:=by
 rw[q0c (by omega)];have d:=q0j 6 ((k:Int)).toNat
 cases hd:q4y 6 ((k:Int)).toNat with
 |nil=>rw[hd] at d;cases d
 |cons a r=>exact⟨by simp[bytesBefore],by simp[bytesBefore],by simp[bytesBefore]⟩
theorem z0Q(d:0<=n/\n<=999999):bytesBefore (q0F 98 n) [99]=true/\bytesBefore (q0F 116 n) [100]=false/\bytesBefore (q0F 116 n) [99]=false:=by
 rw[q0c d,q0c d];exact⟨by simp[bytesBefore],by simp[bytesBefore],by simp[bytesBefore]⟩
theorem before_map :bytesBefore mapN [100]=false/\bytesBefore mapN [99]=false:=by decide
section
variable {st :IxSt}{σ σ':DM}{c s:Int}{φ:Fls}{u cnt:Nat}{B:List En}{C C':Cks}{E:Oth}
theorem z2v : ∀(C:Cks) (i:Nat),i+C.length<=999999->q3R Prod.fst (q4H i C)
 |[],_,_=>List.Pairwise.nil
 | ps::r,i,h=>by
  rw[χ] at h;refine List.pairwise_cons.2 ⟨fun y m=>?_,z2v r (i+1) (by omega)⟩;obtain⟨j,o,q,d⟩:=q3V m;rw[d];exact q6N (by omega) (by omega) (by omega)
theorem z2u{C:Cks}(d:C.length<=200)(i:k<=999999):(q0H Prod.fst (q0F 99 (k:Int)) (q4H 0 C)).map Prod.snd=(C[k]?).map (q0W k):=by
 rcases Nat.lt_or_ge k C.length with h|h
 ·rw[z0T d (γ h),γ h];rfl
 ·rw[z0U d h i,List.getElem?_eq_none h];rfl
theorem q7p(h:PInv st σ c s φ u cnt B)(a0:CksS φ σ C k0)(hC:okC C):
  ∃E,Lgd E σ (c-(q2a E:Int)) s C k0/\(∀nm,y2B nm->(q0H Prod.fst nm (E.X++E.Z)).map Prod.snd=φ nm)/\q2a E+q0q C<=u/\E.X.length+C.length+E.Z.length<=cnt:=by
 have hc:=a0.i;obtain⟨l,g0,o,J,n0,m0⟩:=h.fl;have O: ∀y∈l,φ y.1≠none:=fun y d e=>by
  have:=J y.1;rw[q4g o d rfl,e] at this;cases this
 have S:=q9n (r:=fun x y:List UInt8×List UInt8=>bytesBefore x.1 y.1=true) (p:=fun y:List UInt8×List UInt8=>bytesBefore y.1 [99]) (fun x y h1 h2=>WideShapes.bytes_trans _ _ _ h1 h2) o;have hr:=o.filter (p:=fun y:List UInt8×List UInt8=>!bytesBefore y.1 [99]);have p2:=q9n (r:=fun x y:List UInt8×List UInt8=>bytesBefore x.1 y.1=true) (p:=fun y:List UInt8×List UInt8=>bytesBefore y.1 [100]) (fun x y h1 h2=>WideShapes.bytes_trans _ _ _ h1 h2) hr;obtain⟨X,hX⟩: ∃X,l.filter (fun y=>bytesBefore y.1 [99])=X:=⟨_,rfl⟩
 obtain⟨R,hR⟩: ∃R,l.filter (fun y=>!bytesBefore y.1 [99])=R:=⟨_,rfl⟩
 obtain⟨M,hM⟩: ∃M,R.filter (fun y=>bytesBefore y.1 [100])=M:=⟨_,rfl⟩
 obtain⟨Z,hZ⟩: ∃Z,R.filter (fun y=>!bytesBefore y.1 [100])=Z:=⟨_,rfl⟩
 rw[hX,hR] at S;rw[hR,hM,hZ] at p2;rw[p2] at S;have mX: ∀y,y∈X↔y∈l/\bytesBefore y.1 [99]=true:=fun y=>by rw[<-hX,List.mem_filter]
 have mR: ∀y,y∈R↔y∈l/\bytesBefore y.1 [99]=false:=fun y=>by rw[<-hR,List.mem_filter];simp
 have mM: ∀y,y∈M↔y∈l/\bytesBefore y.1 [99]=false/\bytesBefore y.1 [100]=true:=fun y=>by rw[<-hM,List.mem_filter,mR];simp[and_assoc]
 have mZ: ∀y,y∈Z↔y∈l/\bytesBefore y.1 [99]=false/\bytesBefore y.1 [100]=false:=fun y=>by rw[<-hZ,List.mem_filter,mR];simp[and_assoc]
 have D: ∀n∈st.m.L.flatten,0<=n/\n<=999999:=fun n G=>by have:=h.range G;omega
 have U: ∀y,y∈X\/y∈Z->y.1=mapN\/ ∃n∈st.m.L.flatten,y.1=q0F 116 n\/y.1=q0F 98 n:=fun y d=>by
  have hl:y∈l:=d.elim (fun h=>((mX y).1 h).1) fun h=>((mZ y).1 h).1
  rcases h.only y.1 (O y hl) with e|e|⟨k,I,e⟩
  ·exact .inl e
  ·exact .inr e
  ·exfalso
   obtain⟨_,b2,b3⟩:=q5P I;rcases d with d|d
   ·have:=((mX y).1 d).2;rw[e,b3] at this;cases this
   ·have:=((mZ y).1 d).2.2;rw[e,b2] at this;cases this
 have c0: ∀y∈M,∃k:Nat,k<=999999/\y.1=q0F 99 (k:Int):=fun y d=>by
  obtain⟨hl,q1,q2⟩:=(mM y).1 d;rcases h.only y.1 (O y hl) with e|⟨n,G,e|e⟩|e
  ·rw[e,before_map.1] at q2;cases q2
  ·rw[e,(z0Q (D n G)).2.1] at q2;cases q2
  ·rw[e,(z0Q (D n G)).1] at q1;cases q1
  ·exact e
 have Q:=o;rw[S] at Q;obtain⟨oX,i0,_⟩:=List.pairwise_append.1 Q;obtain⟨oM,oZ,_⟩:=List.pairwise_append.1 i0;have b0:M=q4H 0 C:=z8u oM (z2v C 0 (by have:=hC.few;omega)) fun nm=>by
  by_cases N: ∃k:Nat,k<=999999/\nm=q0F 99 (k:Int)
  ·obtain⟨k,I,rfl⟩:=N
   rw[z2u hC.few I,<-hc k I,<-J];obtain⟨_,b2,b3⟩:=q5P I;rw[S,q0d fun y d e=>?_,q1X fun y d e=>?_]
   ·have:=((mZ y).1 d).2.2;rw[show y.1=q0F 99 (k:Int) from e,b2] at this;cases this
   ·have:=((mX y).1 d).2;rw[show y.1=q0F 99 (k:Int) from e,b3] at this;cases this
  ·rw [q0b fun y d e=>N (by obtain⟨k,I,e2⟩:=c0 y d;exact⟨k,I,by rw[<-e2];exact e.symm⟩),q0b fun y d e=>N (by
    obtain⟨j,h1,h2,h3⟩:=q3V d
    exact⟨j,by have:=hC.few;omega,by rw[<-h3];exact e.symm⟩)]
 rw[b0] at S;have e0:=h.noNew;have l0:q2b l=q2a ⟨X,Z⟩+q0q C:=by
  rw[S,q1O,q1O,q5R];unfold q2a;simp only;omega
 have j0:l.length=X.length+C.length+Z.length:=by rw[S];simp[q5D];omega
 refine⟨⟨X,Z⟩,⟨?_,hC,⟨fun y d k I=>?_,fun y d k I=>?_,fun y d e=>?_,fun y d hp=>?_,fun y d=>?_,?_⟩,a0.sr,a0.le⟩,fun nm N=>?_,by omega,by simp only;omega⟩
 ·rw[show c-(q2a ⟨X,Z⟩:Int)+(q2a ⟨X,Z⟩:Int)=c by omega]
  show Pl σ c s (X++(q4H 0 C++Z));rw[<-S];exact g0
 ·exact WideShapes.bytes_trans _ _ _ ((mX y).1 d).2 (q5P I).1
 ·by_cases q:y.1=[100]
  ·rw[q];exact(q5P I).2.1
  ·rcases WideAt.bytes_total y.1 [100] q with q|q
   ·rw[((mZ y).1 d).2.2] at q;cases q
   ·exact WideShapes.bytes_trans _ _ _ (q5P I).2.1 q
 ·have hl:y∈l:=d.elim (fun h=>((mX y).1 h).1) fun h=>((mZ y).1 h).1
  exact O y hl (by rw[e];exact e0)
 ·rcases U y d with e|⟨n,G,e|e⟩
  ·rw[e] at hp;exact absurd hp (by decide)
  ·rw[e,q2I y1l (D n G)];exact(by decide:(116:UInt8)≠99)
  ·rw[e,q2I y3W (D n G)];exact(by decide:(98:UInt8)≠99)
 ·rcases U y d with e|⟨n,G,e|e⟩
  ·rw[e];decide
  ·rw[e,q0c (D n G),χ,q0j];decide
  ·rw[e,q0c (D n G),χ,q0j];decide
 ·have d0:((X++Z).map Prod.fst).Nodup:=by
   have ho:q3R Prod.fst (X++Z):=by
    rw[S] at o;exact o.sublist (List.Sublist.append (List.Sublist.refl X) (List.sublist_append_right _ _))
   exact List.pairwise_map.2 (z0v ho)
  have hb:=Man.bounds h.man;have:=q6k (m:=mapN::(st.m.L.flatten.map (q0F 116)++st.m.L.flatten.map (q0F 98))) d0 fun x hx=>by
   obtain⟨y,d,rfl⟩:=List.mem_map.1 hx;rcases U y (List.mem_append.1 d) with e|⟨n,G,e|e⟩
   ·rw[e];exact .head _
   ·rw[e];exact .tail _ (List.mem_append.2 (.inl (List.mem_map.2 ⟨n,G,rfl⟩)))
   ·rw[e];exact .tail _ (List.mem_append.2 (.inr (List.mem_map.2 ⟨n,G,rfl⟩)))
  simp only[List.length_map,θ,χ] at this;simp only;omega
 ·rw [<-J,S]
  show(q0H Prod.fst nm (X++Z)).map Prod.snd=_;have f0: ∀y∈q4H 0 C,Prod.fst y≠nm:=fun y d e=>by
   obtain⟨j,h1,h2,h3⟩:=q3V d;exact N j (by have:=hC.few;omega) (by rw[<-h3];exact e.symm)
  unfold q0H;rw[List.find?_append,List.find?_append,List.find?_append];have h0:List.find? (fun y=>Prod.fst y==nm) (q4H 0 C)=none:=q0b f0;rw[h0];simp
theorem PInv.relog(h:PInv st σ c s φ u cnt B)(hE: ∀nm,y2B nm->(q0H Prod.fst nm (E.X++E.Z)).map Prod.snd=φ nm)(q:Lgd E σ' (c-(q2a E:Int)) s C' k0)(ho:okD σ')(hu:q2a E+q0q C'<=u')(J:E.X.length+C'.length+E.Z.length<=cnt'):
  ∃D,PInv st σ' c s D u' cnt' B/\CksS D σ' C' k0/\ ∀nm,y2B nm->D nm=φ nm:=by
 have r:=q.pl;rw[show c-(q2a E:Int)+(q2a E:Int)=c by omega] at r;have d: ∀nm,y2B nm->(q0H Prod.fst nm (q3Q E C')).map Prod.snd=φ nm:=fun nm i=>by
  rw[<-hE nm i];have Q: ∀y∈q4H 0 C',Prod.fst y≠nm:=fun y hy e=>by
   obtain⟨j,h1,h2,U⟩:=q3V hy;exact i j (by have:=q.ok.few;omega) (by rw[<-U];exact e.symm)
  unfold q0H q3Q;rw[List.find?_append,List.find?_append,List.find?_append];have S:List.find? (fun y=>Prod.fst y==nm) (q4H 0 C')=none:=q0b Q;rw[S];simp
 have O: ∀k:Nat,k<=999999->(q0H Prod.fst (q0F 99 (k:Int)) (q3Q E C')).map Prod.snd=(C'[k]?).map (q0W k):=fun k G=>by
  rw[<-z2u q.ok.few G];unfold q3Q;rw[q0d (q.oth.neX G),q1X (q.oth.neZ G)]
 have N: ∀I:UInt8,(I=116\/I=98)-> ∀n:Int,0<=n/\n<=999999->y2B (q0F I n):=fun I hc n J k G e=>by
  have hl:q2D I=true:=by rcases hc with rfl|rfl<;>decide
  have:=(z8o hl y3H J (by omega) e).1;rcases hc with rfl|rfl<;>exact absurd this (by decide)
 have o: ∀n∈st.m.L.flatten,0<=n/\n<=999999:=fun n J=>by have:=h.range J;omega
 refine⟨fun nm=>(q0H Prod.fst nm (q3Q E C')).map Prod.snd,⟨⟨q3Q E C',r,r.ord ho,fun _=>rfl,by rw[q6z];exact hu,by rw[q6y];exact J⟩,h.man,h.full,fun n e he=>?_,fun nm i=>?_,h.okw,h.okB,h.mem⟩,⟨O,q.sr,q.le⟩,d⟩
 ·obtain⟨R,t1,⟨y,t2⟩,t3,t4⟩:=h.tb n e he
  exact⟨R,(d _ (N 116 (.inl rfl) n (o n R))).trans t1,⟨y,(d _ (N 98 (.inr rfl) n (o n R))).trans t2⟩,t3,t4⟩
 ·by_cases hc: ∃k:Nat,k<=999999/\nm=q0F 99 (k:Int)
  ·exact .inr (.inr hc)
  ·exact h.only nm (by rw[<-d nm fun k G e=>hc ⟨k,G,e⟩];exact i)
end
def y3B(L:List FM)(X:FM->Prop):Prop:= ∀f∈L,f.sy=f.da.length\/X f
def Kp(σ σ':DM):Prop:=σ.down=false->σ.fail=false->(σ'.down=false/\σ'.fail=false)/\ ∀X:FM->Prop,(∀f,X f->f.nm≠z2D)->y3B σ.L X->y3B σ'.L X
theorem Kp.refl(σ:DM):Kp σ σ:=fun i d=>⟨⟨i,d⟩,fun _ _ h=>h⟩
theorem Kp.trans{a b d:DM}(m:Kp a b)(o:Kp b d):Kp a d:=fun r q=>by
 obtain⟨⟨D,j⟩,k1⟩:=m r q;obtain⟨G,y⟩:=o D j;exact⟨G,fun X i h=>y X i (k1 X i h)⟩
theorem z5x{σ:DM}(h:σ.fail=false):q1x σ=false:=by unfold q1x;rw[h];rfl
theorem Kp.tell(σ:DM):Kp σ (q2S σ):=fun i d=>⟨⟨i,d⟩,fun _ _ h=>h⟩
theorem Kp.tells : ∀(k:Nat) (σ:DM),Kp σ (tellN k σ)
 |0,σ=>Kp.refl σ
 |k+1,σ=>by rw[q1f];exact(Kp.tell σ).trans (Kp.tells k _)
theorem Kp.delete(σ:DM)(nm:List UInt8):Kp σ (q1Q σ nm).2:=fun i d=>by
 unfold q1Q;rw[κ (by rw[i];decide)]
 split
 ·exact⟨⟨i,d⟩,fun _ _ h=>h⟩
 ·rw[κ (by rw[z5x d];decide)]
  exact⟨⟨i,d⟩,fun X _ h f hm=>h f (mem_delN.1 (show f∈q2s FM.nm nm σ.L from hm)).1⟩
theorem z4l:q0F 99 (k:Int)≠z2D:=fun e=>by
 unfold q0F at e
 split at e
 ·exact absurd (List.cons.inj e).1 (by decide)
 ·cases e
theorem Sur.kp{σ σ':DM}{n:Nat}{k:Int}(h:Sur σ.L n k)(i:Kp σ σ')(m:σ.down=false)(d:σ.fail=false):Sur σ'.L n k:=
 (i m d).2 (fun f=> ∃j:Nat,n=j+1/\f.nm=q0F 99 (j:Int)/\k<=(j:Int)*4096+(f.sy:Int)) (fun f ⟨j,_,e,_⟩=>by rw[e];exact z4l) h
end
section
open Go.RowKit Go.Maps
def DkX(wb W:World)(g:Nat)(σ:DM)(K:Nat->Prop):Prop:= ∃F,DkF wb W g F σ K
def q3L :DM->List Int->(Int->Option (List En))->(Int->Option (List En))×Int×DM
 |σ,[],acc=>(acc,0,σ)
 | σ,n::ns,acc=>match q5h σ n with
  |(none,e,τ)=>(acc,e,τ)
  |(some L,_,τ)=>q3L τ ns (fun x=>if x=n then some L else acc x)
def z0J(wb w:World)(g:Nat)(m:Man)(rate:Nat)(K:Nat->Prop)(σ:DM)(e:Ending)(w':World):Prop:=
 (q0i m.nx m.ck m.L=false/\e= .returned (.tuple #[.pointer none,.int .i64 2])/\DkX wb w' g σ K/\Stay K w w')\/
 (q0i m.nx m.ck m.L=true/\σ.down=true/\e= .returned (.tuple #[.pointer none,.int .i64 61])/\DkX wb w' g σ K/\Stay K w w')\/
 (q0i m.nx m.ck m.L=true/\σ.down=false/\(q3L σ m.L.flatten (fun _=>none)).2.1≠0/\e= .returned (.tuple #[.pointer none,.int .i64 (q3L σ m.L.flatten (fun _=>none)).2.1])/\DkX wb w' g (q3L σ m.L.flatten (fun _=>none)).2.2 K/\Stay K w w')\/
 (q0i m.nx m.ck m.L=true/\σ.down=false/\(q3L σ m.L.flatten (fun _=>none)).2.1=0/\ ∃gx t,e= .returned (.tuple #[.pointer (some ⟨gx,0,none⟩),.int .i64 0])/\
  IxK wb w' g gx ⟨m,rate,[],t,m.L.flatten.length⟩ (q3L σ m.L.flatten (fun _=>none)).2.2 K/\Stay K w w'/\ ∀n,(t n).map TE.L=(q3L σ m.L.flatten (fun _=>none)).1 n)
section
variable {wb w0 w W W1 w1 w2:World}{g gx gm gt B:Nat}{st st1:IxSt}{F Y Y1 K K' V T:Nat->Prop}{σ σ1:DM}{va v v1 v2 vm:Value}{vs:List Value}{ns:List Int}{acc:List (List En)}{M L:List En}
theorem IxI.putO{D:DataW Unit}{J:Nat}(h:IxI w gx g gm gt st v vs vm D J Y){t:Nat}{may:Int->Bool}
  (N:w2.ownsMap Tryz.prog 3 q6m gt (J+1) (D.put (.int .i64 n) (.lit (.int .i64 t))))(j:OffS (fun i=>i=gt) w w2)
  (G:Tb w t g n L may T)(O: ∀i,T i->¬InX gx gm gt i):
  IxI w2 gx g gm gt ⟨st.m,st.rate,st.w,(fun x=>if x=n then some ⟨t,L,may⟩ else st.t x),st.c+1⟩ v vs vm (D.put (.int .i64 n) (.lit (.int .i64 t))) (J+1) (fun i=>Y i\/T i):=by
 have I: ∀i,i<w.heap.size->i≠gt->w2.heap[i]? =w.heap[i]? :=fun i d r=>j.block i d r
 have o: ∀i,(Y i\/T i)->i<w.heap.size/\¬InX gx gm gt i:=fun i d=>by
  rcases d with d|d
  ·exact⟨h.lt i d,h.apart i d⟩
  ·exact⟨G.lt i d,O i d⟩
 have q: ∀i,(Y i\/T i)->w2.heap[i]? =w.heap[i]? :=fun i d=>I i (o i d).1 fun e=>(o i d).2 (.inr (.inr e))
 refine⟨h.blk.same (I _ h.blk.lt h.ne.2.1),?_,q4j h.lev fun i d=>q i (.inl (h.inY i (d.elim .inl fun e=> .inr (.inl e)))),N,Nat.succ_le_succ h.cnt,fun x=>?_,fun x e r=>?_,fun i d=> .inl (h.inY i d),fun i d=>Ψ (o i d).1 j.size,fun i d=>(o i d).2,h.ne⟩
 ·refine h.mem.same fun i d=>?_
  rcases d with rfl|d
  ·exact I _ h.mem.blk.lt h.ne.2.2
  ·exact q i (.inl (h.inY i (.inr (.inr d))))
 ·exact z8j (e:=⟨t,L,may⟩) h.look h.map.isMap x
 ·simp only at r
  by_cases y:x=n
  ·rw[ξ y] at r
   injection r with r;subst r;subst y;exact(G.same j.size fun i d=>q i (.inr d)).mono (fun i d=> .inr d) fun i d=>Ψ (o i d).1 j.size
  ·rw[κ y] at r
   exact((h.tab x e r).same j.size fun i d=>q i (.inl d)).mono (fun i d=> .inl d) fun i d=>Ψ (o i d).1 j.size
theorem z6N(h : DkF wb w g F σ K){m:Man}(hG:Grid w ao m.L.length cap m.L)(I1:m.L.flatten.length<=1000000000)(F1: ∀x∈m.L.flatten,(Lit.int .i64 x).wf=true)(B1:0<=m.sd)(C1:m.sd<18446744073709551616)(rate:Nat):
  Calls Tryz.prog 142 #[.pointer (some ⟨g,0,none⟩),.agg #[.int .i64 m.nx,.int .i64 m.ck,.int .u64 m.sd,.slice ao m.L.length cap],.float .f64 rate] w (z0J wb w g m rate K σ):=by
 have HD:=η h;have v0:=q0B w (.cells #[.int .i64 m.nx,.int .i64 m.ck,.int .u64 m.sd,.slice ao m.L.length cap] 47);have d1:=Blk.new w 47 #[.int .i64 m.nx,.int .i64 m.ck,.int .u64 m.sd,.slice ao m.L.length cap];have a0:=η (q7n (h.d.ext v0) [] (by decide));have hc: ∃z c,q1j σ []=(z,c)/\(c==1)=false/\((c==61)=σ.down)/\(σ.down=true->c=61):=by
  unfold q1j
  cases σ.down with
  |true=>exact⟨_,_,rfl,rfl,rfl,fun _=>rfl⟩
  | false=>
   simp only[Bool.false_eq_true,if_false]
   split
   ·exact⟨_,_,rfl,rfl,rfl,fun h=>by cases h⟩
   ·exact⟨_,_,rfl,rfl,rfl,fun h=>by cases h⟩
 obtain⟨z,c,hz,x1,I0,J0⟩:=hc;rw[hz] at a0;have HV:=η (q9h m.nx m.ck m.sd ao m.L.length cap m.L _ (hG.ext v0) (by omega) F1);have HG:=η hG;have j0:=η v0;have N:=η d1;obtain⟨w1,E1⟩: ∃w1,w.alloc (.cells #[.int .i64 m.nx,.int .i64 m.ck,.int .u64 m.sd,.slice ao m.L.length cap] 47)=w1:=⟨_,rfl⟩
 rw[E1] at a0 HV j0 N;obtain⟨p,hp⟩: ∃p,w.heap.size=p:=⟨_,rfl⟩
 have HP:=η hp;rw[hp] at N;have b0:w1.cell? ⟨p,0,none⟩=some (.int .i64 m.nx):=N.o.cell 0;have b1:w1.cell? ⟨p,1,none⟩=some (.int .i64 m.ck):=N.o.cell 1;have b2:w1.cell? ⟨p,2,none⟩=some (.int .u64 m.sd):=N.o.cell 2;have b3:w1.cell? ⟨p,3,none⟩=some (.slice ao m.L.length cap):=N.o.cell 3;have N0:=@run_makeMap Tryz.prog;clear h v0 d1 hz hG
 cases hv:q0i m.nx m.ck m.L with
 | false=>
  rw[hv] at HV;have c0:=η hv;clear hv;go_enter Tryz.func142,Tryz.ntmps142;go_wp2_with fail;refine a0.o.mono ?_;rintro e w2 ⟨rfl,rfl⟩;go_wp2_with fail;refine HV.o.mono ?_;rintro e w2 ⟨rfl,D⟩;have G:=η (j0.o.trans D);clear D;go_wp2_with fail;go_ret2;exact .inl ⟨c0.o,rfl,⟨F,HD.o.grow G.o⟩,fun i j=>G.o.block i (HD.o.k i j).1⟩
 | true =>
  rw[hv] at HV;have c0:=η hv;clear hv
  cases hdn:σ.down with
  | true=>
   rw[hdn] at I0;obtain rfl:=J0 hdn;have r0:=η hdn;clear hdn J0;go_enter Tryz.func142,Tryz.ntmps142;go_wp2_with fail;refine a0.o.mono ?_;rintro e w2 ⟨rfl,rfl⟩;go_wp2_with fail;refine HV.o.mono ?_;rintro e w2 ⟨rfl,D⟩;have G:=η (j0.o.trans D);clear D;go_wp2_with fail;go_ret2;exact .inr (.inl ⟨c0.o,r0.o,rfl,⟨F,HD.o.grow G.o⟩,fun i j=>G.o.block i (HD.o.k i j).1⟩)
  | false =>
   rw[hdn] at I0;have r0:=η hdn;have p0:m.ok:=⟨c0.o,B1,C1⟩
   have u0:=Man.bounds p0;clear hdn J0;go_enter Tryz.func142,Tryz.ntmps142;go_wp2_with fail;refine a0.o.mono ?_;rintro e w2 ⟨rfl,rfl⟩;go_wp2_with fail;refine HV.o.mono ?_;rintro e w2 ⟨rfl,D⟩;have G:=η (j0.o.trans D);have b0:=q0A D b0;have b1:=q0A D b1;have b2:=q0A D b2;have b3:=q0A D b3;have Q0:=η (N.o.ext D);clear D;go_wp2_with fail;refine(z2w m.nx m.ck m.sd ao m.L.length cap m.L w2 (HG.o.ext G.o) (fun i=>by have:=u0.2.2.1 i;omega) (by omega)).mono ?_;rintro e w3 ⟨v3,y0,rfl,q0,a1⟩;have E0:=η q0;have s0:=η a1;obtain⟨a3,k3,rfl⟩:=q0.own.slice;clear q0 a1;go_wp2_with fail;refine(y1s w3).mono ?_;rintro e Z ⟨gm,rfl,O,z1,H0⟩;have D0:=η O;have t0:=η H0;have b3:=q0A H0 (q0A s0.o b3);clear O H0;obtain⟨S,l0⟩: ∃S,(Z.alloc (.map #[] 0)).alloc (.cells #[.pointer (some ⟨g,0,none⟩),.int .i64 m.nx,.int .i64 m.ck,.int .u64 m.sd,.slice a3 m.L.length k3,.float .f64 rate,.pointer (some ⟨gm,0,none⟩),.map (some Z.heap.size)] 186)=S:=⟨_,rfl⟩
   have d0:Hd (Ext Z S):=η (l0▸q5Z _ _ _)
   have P0:Hd (Blk S (Z.heap.size+1) 186 #[.pointer (some ⟨g,0,none⟩),.int .i64 m.nx,.int .i64 m.ck,.int .u64 m.sd,.slice a3 m.L.length k3,.float .f64 rate,.pointer (some ⟨gm,0,none⟩),.map (some Z.heap.size)]):=η (by
    have h:=Blk.new (Z.alloc (.map #[] 0)) 186 #[.pointer (some ⟨g,0,none⟩),.int .i64 m.nx,.int .i64 m.ck,.int .u64 m.sd,.slice a3 m.L.length k3,.float .f64 rate,.pointer (some ⟨gm,0,none⟩),.map (some Z.heap.size)];rw[ρ,l0] at h
    exact h)
   have T0:Hd (S.ownsMap Tryz.prog 3 q6m Z.heap.size 0 (.map [])):=η (l0▸(World.ownsMap_made (H:=Unit) Z Tryz.prog 3 q6m).alloc _);have r1:Hd (S.heap.size=Z.heap.size+2):=η (by rw[<-l0,ρ,ρ]);have s1:=q0A d0.o b3;have e0:=η (((G.o.trans s0.o).trans t0.o).trans d0.o);have y1:gm<Z.heap.size:=D0.o.blk.lt
   have S0:Hd (IxK wb S g (Z.heap.size+1) ⟨m,rate,[],(fun _=>none),0⟩ σ K):=η (by
    have hD:=HD.o;have J1:=G.o.size;have K1:=s0.o.size;have L1:=t0.o.size;have N1:=hD.ext.size;have A1:OGr S w2.heap.size 37 3 (.slice a3 m.L.length k3) y0 m.L:=(E0.o.ext t0.o).ext d0.o;have I: ∀i,((Value.slice a3 m.L.length k3).ownBlock=some i\/ ∃q,(y0.getD q (.slice none 0 0)).ownBlock=some i)->w2.heap.size<=i/\i<w3.heap.size:=fun i j=>z0u E0.o i j
    refine⟨F,gm,Z.heap.size,fun i=>((Value.slice a3 m.L.length k3).ownBlock=some i\/ ∃q,(y0.getD q (.slice none 0 0)).ownBlock=some i),⟨hD.d.ext e0.o,⟨⟨p0,okM.nil,υ _⟩,.slice a3 m.L.length k3,y0,.slice none 0 0,.map [],0,⟨P0.o,D0.o.ext d0.o,q9l A1 (υ _),T0.o,ι _,fun n=>rfl,fun n e he=>(by cases he),fun i j=>?_,fun i j=>Ψ (I i j).2 (by have:=d0.o.size;omega),fun i j hx=>?_,⟨by omega,by omega,by omega⟩⟩⟩,fun i j=>?_⟩,hD.bF,fun i j=>?_,fun i j=>by have:=I i j;omega,hD.ext.trans e0.o,fun i j=>?_⟩
    ·rcases j with j|j|j
     ·exact .inl j
     ·exact .inr j
     ·cases j
    ·have h1:=I i j
     rcases hx with rfl|rfl|rfl<;>omega
    ·have h1:=hD.d.Flt i j
     exact⟨fun hx=>by rcases hx with rfl|rfl|rfl<;>omega,fun hy=>by have:=I i hy;omega⟩
    ·rcases j with rfl|rfl|rfl<;>omega
    ·have h1:=hD.k i j
     have h2:=e0.o.size
     exact⟨by omega,h1.2,fun hx=>by rcases hx with rfl|rfl|rfl<;>omega,fun hy=>by have:=I i hy;omega⟩)
   have O0:=η (z4F ao m.L.length cap m.L S (HG.o.ext e0.o) (by omega));have u1: ∀i,K i->i<w.heap.size:=fun i j=>(HD.o.k i j).1
   have i0:Hd (Stay K w S):=η fun i j=>e0.o.block i (u1 i j)
   clear N0;have N0:=@run_makeMap Tryz.prog;go_wp2_with fail;refine O0.o.mono ?_;rintro e w5 ⟨va,rfl,X,c1⟩;obtain⟨aa,ka,rfl⟩:=X.slice;obtain⟨ns,g0⟩: ∃ns,m.L.flatten=ns:=⟨_,rfl⟩
   have p1:=η g0;rw[g0] at X;have C0:=η (LsW.start S0.o (W:=w5) c1 X);rw[g0];obtain⟨R,hR⟩: ∃R,q3L σ ns (fun _=>none)=R:=⟨_,rfl⟩
   have HR:=η hR
   have z0:Hd (∀e w',((R.2.1≠0/\e= .returned (.tuple #[.pointer none,.int .i64 R.2.1])/\DkX wb w' g R.2.2 K/\Stay K S w')\/(R.2.1=0/\ ∃gx t,e= .returned (.tuple #[.pointer (some ⟨gx,0,none⟩),.int .i64 0])/\IxK wb w' g gx ⟨m,rate,[],t,ns.length⟩ R.2.2 K/\Stay K S w'/\ ∀n,(t n).map TE.L=R.1 n))->z0J wb w g m rate K σ e w'):=η (by
    intro e w' h;unfold z0J;rw[g0,hR];rcases h with⟨q1,q2,q3,q4⟩|⟨q1,gx,t,q2,q3,q4,q5⟩
    ·exact .inr (.inr (.inl ⟨c0.o,r0.o,q1,q2,q3,i0.o.trans q4⟩))
    ·exact .inr (.inr (.inr ⟨c0.o,r0.o,q1,gx,t,q2,q3,i0.o.trans q4,q5⟩)))
   obtain⟨n,hn⟩: ∃n,ns.length=n:=⟨_,rfl⟩
   have h0:=η hn;have H1:n<=40:=by rw[<-hn,<-g0];exact u0.2.1
   have n1:=η u0;obtain⟨gx,K0⟩: ∃gx,Z.heap.size+1=gx:=⟨_,rfl⟩
   rw[hn] at C0;rw[K0] at C0;rw[hn];simp only[K0];clear X c1 g0 hn O0 j0 G s0 t0 d0 P0 T0 r1 s1 b0 b1 b2 b3 e0 S0 D0 E0 N0 hR u0 HV a0 HG N Q0 HP i0 x1 I0 l0 y1 z1 K0;go_wp2_with fail
   go_loopw [44] (fun i W=> ∃(k:Nat) (t:Int->Option TE) (acc:Int->Option (List En)) (τ:DM),k<=n/\i= .int .i64 (k:Int)/\LsW wb S W g gx ⟨m,rate,[],t,k⟩ τ K (.slice aa n ka) (.slice none 0 0) [] ns [] S.heap.size/\(∀x,(t x).map TE.L=acc x)/\q3L τ (ns.drop k) acc=R) (fun i _=>n-(intOf i).toNat)
   case atStart=>exact⟨0,fun _=>none,fun _=>none,σ,υ _,rfl,C0.o,fun x=>rfl,HR.o⟩
   case round =>
    obtain⟨k,tt,acc,τ,hk,rfl,i1,l1,y⟩:=hrel;have HL:=η i1;have U0:=η y;have V0:=η l1;clear i1 y l1;by_cases I:k<n
    ·have hd:decide ((k:Int)<(n:Int))=true:=ζ (by omega)
     have q1:IntKind.i64.wrap ((k:Int)+1)=(k:Int)+1:=by rw[ν];omega
     have q5:(k:Int)<(n:Int):=by omega
     obtain⟨_,_,ea,L0⟩:=q2z HL.o.all;rw[h0.o] at ea
     cases ea;rw[h0.o] at L0;obtain⟨ba,oa,rfl,n0⟩:=L0.at I;have M0:k<ns.length:=by rw[h0.o];exact I
     have m0:ns.drop k=ns.getD k 0::ns.drop (k+1):=by
      rw[List.drop_eq_getElem_cons M0,δ,γ M0];rfl
     have O:ns.getD k 0∈m.L.flatten:=by rw[p1.o];exact q3w ns k M0
     have y:=U0.o;rw[m0] at y;have m1:=(n1.o.2.2.2.1 _ O).1;generalize ns.getD k 0=nk at*;rw[q3L] at y;obtain⟨F2,t1,X0,Y2,h2⟩:=HL.o.i;have F0:=η (y0j h2.i.d nk);have R0:=η h2;obtain⟨r,hr⟩: ∃r,q5h τ nk=r:=⟨_,rfl⟩
     rw[hr] at y F0;obtain⟨o,c,G1⟩:=r;clear L0 m0 O h2
     cases o with
     | none=>
      simp only at y;have hc:=z8s hr;have g2:(c !=0)=true:=by simpa using hc
      have G0:=η y;have HC:=η hc;clear hr y hc;go_wp2_with fail;refine F0.o.mono ?_;rintro e3 w3 ⟨rfl,f0⟩;obtain⟨U,Q⟩:=R0.o.disk f0
      have HE:Hd (z0J wb w g m rate K σ (.returned (.tuple #[.pointer none,.int .i64 c])) w3):=η (z0.o _ _ (.inl (by
       rw[<-G0.o]
       exact⟨HC.o,rfl,⟨_,U.i.d,U.bF,U.ext,fun i j=>⟨(U.k i (.inl j)).1,(U.k i (.inl j)).2.1⟩⟩,HL.o.stay.trans fun i j=>Q i (.inl j)⟩)))
      clear f0 U Q;go_wp2_with fail;go_ret2;exact HE.o
     | some L=>
      simp only at y;obtain rfl:=z4s hr;have G0:=η y;clear hr y;go_wp2_with fail;refine F0.o.mono ?_;rintro e3 w7 ⟨t,may,T,w6,rfl,f0,x0,k1,hT⟩;obtain⟨U,Q⟩:=R0.o.disk f0;have h7:=U.grow x0;have A0:Stay (fun i=>K i\/z9Q (.slice (some ⟨ba,oa,none⟩) n ka) (.slice none 0 0) [] i) wr w7:=Q.trans (U.kExt x0);obtain⟨j1,v7,Q1,P1,D7,O1,o0⟩:=h7.i.x;have c7:=o0.c7;have e1:=o0.cnt;simp only at e1;obtain⟨w8,D1,Y0,f1⟩:=o0.map.update Tryz.keyInt Tryz.underlying184 (by unfold maxLen;omega) (keyOf_int_mk Tryz.underlying3 m1) (z6q t);have J:OffS (fun i=>i=X0) w7 w8:=OffS.grown f1 fun i j=>by injection j with j;exact j.symm
      have Z0: ∀i,T i->¬InX gx t1 X0 i:=fun i j hx=>by have:=hT i j;have:=U.i.x.xlt i hx;omega
      have g1:=o0.putO Y0 J k1 Z0
      obtain⟨h8,B0⟩:=h7.turnV (K:=fun i=>K i\/z9Q (.slice (some ⟨ba,oa,none⟩) n ka) (.slice none 0 0) [] i) (st1:=⟨m,rate,[],(fun x=>if x=nk then some ⟨t,L,may⟩ else tt x),k+1⟩) (Y1:=fun i=>Y2 i\/T i) ⟨⟨p0,okM.nil,by show k+1<=1000000;omega⟩,_,_,_,_,_,g1⟩ (J.mono fun i _ j=> .inr (.inr j)) (fun i j=>by
       rcases j with j|j
       ·exact⟨h7.bY i j,fun hf=>(h7.i.ap i hf).2 j⟩
       ·have h9:=hT i j
        exact⟨by have:=U.ext.size;omega,fun hf=>by have:=U.i.d.Flt i hf;omega⟩) (fun i j=>⟨j,fun hy=>by
       rcases hy with hy|hy
       ·exact(h7.k i j).2.2.2 hy
       ·have:=hT i hy;have:=(U.k i j).1;omega⟩)
      have o1:=η (HL.o.step ⟨_,_,_,_,h8⟩ (A0.trans B0) (by have:=f0.off.size;have:=x0.size;have:=J.size;omega));have W0:Hd (∀x,(if x=nk then some (⟨t,L,may⟩:TE) else tt x).map TE.L=if x=nk then some L else acc x):=η fun x=>by
       by_cases hx:x=nk
       ·rw[ξ hx,ξ hx];rfl
       ·rw[κ hx,κ hx];exact V0.o x
      have M1:=η D1;clear f0 U Q h7 A0 j1 o0 Y0 f1 J Z0 g1 h8 B0 k1 hT x0 e1;go_wp2_with fail
      go_roundw
      case rel=>exact⟨k+1,_,_,G1,I,by go_num,o1.o,W0.o,G0.o⟩
      case measure=>simp[intOf];omega
    ·obtain rfl:k=n:=by omega
     have hd:decide ((k:Int)<(k:Int))=false:=ε (by omega);have y:=U0.o;rw[List.drop_of_length_le (by rw[h0.o];exact ι _),q3L] at y
     have HE:Hd (z0J wb w g m rate K σ (.returned (.tuple #[.pointer (some ⟨gx,0,none⟩),.int .i64 0])) wr):=η (z0.o _ _ (.inr (by
      rw[<-y]
      exact⟨rfl,gx,tt,rfl,by rw[h0.o];exact HL.o.i.beside fun i j=> .inl j,HL.o.stay,V0.o⟩)))
     clear y;go_wp2_with fail;go_ret2;exact HE.o
end
end
section
open Go.RowKit
def toc(t:To):List Value:=[.string ⟨t.s.toArray⟩,.int .i64 t.v,.string ⟨t.e.ty.toArray⟩,.string ⟨t.e.da.toArray⟩,.float .f64 t.e.we]
def toV(t:To):Value:= .agg #[.string ⟨t.s.toArray⟩,.int .i64 t.v,.string ⟨t.e.ty.toArray⟩,.string ⟨t.e.da.toArray⟩,.float .f64 t.e.we]
def q2q(L:List To):List Value:=(L.map toc).flatten
theorem q4p(t:To):(toc t).length=5:=rfl
theorem q7t(t:To)(L:List To):q2q (t::L)=toc t++q2q L:=rfl
theorem q7s(L M:List To):q2q (L++M)=q2q L++q2q M:=by unfold q2q;rw[List.map_append,List.flatten_append]
theorem q5q(L:List To)(t:To):q2q (L++[t])=q2q L++toc t:=by rw[q7s];unfold q2q;simp
theorem q7u(L:List To):(q2q L).length=L.length*5:=by
 induction L with
 |nil=>rfl
 |cons k L ih=>rw[q7t,θ,ih,χ,q4p];omega
theorem q5J : ∀(L:List To) (i j:Nat),i<L.length->j<5->(q2q L)[i*5+j]? =(toc (L.getD i to0))[j]?
 |[],i,j,h,_=>by simp at h
 | k::L,0,j,_,hj=>by
  rw[q7t,List.getElem?_append_left (by rw[q4p];omega)];simp
 | k::L,i+1,j,h,hj=>by
  rw[q7t,List.getElem?_append_right (by rw[q4p];omega),show(i+1)*5+j-(toc k).length=i*5+j by rw[q4p];omega,q5J L i j (by simpa using h) hj];simp
theorem z9M(L:List To): ∀u∈q2q L,u.oneCell'=true:=fun u i=>by
 unfold q2q at i;obtain⟨l,j,d⟩:=List.mem_flatten.1 i;obtain⟨f,_,rfl⟩:=List.mem_map.1 j;unfold toc at d;simp only[List.mem_cons,List.not_mem_nil,or_false] at d;rcases d with rfl|rfl|rfl|rfl|rfl<;>rfl
structure Tos(w:World)(ao:Option Addr)(n cap:Nat)(L:List To):Prop where
 len:L.length=n
 fits:n<=cap
 bound:cap<=9223372036854775807
 nil:ao=none->cap=0
 rd:Rd w ao (q2q L)
theorem Tos.ext{w w':World}{n:Nat}{L:List To}(h:Tos w ao n cap L)(k:Ext w w'):Tos w' ao n cap L:=⟨h.len,h.fits,h.bound,h.nil,h.rd.ext k⟩
theorem Tos.at{w:World}{n:Nat}{L:List To}(h:Tos w ao n cap L){i:Nat}(O:i<n):
  ∃b off,ao=some ⟨b,off,none⟩/\w.cell? ⟨b,off+i*5,none⟩=some (.string ⟨(L.getD i to0).s.toArray⟩)/\w.cell? ⟨b,off+i*5+1,none⟩=some (.int .i64 (L.getD i to0).v)/\w.cell? ⟨b,off+i*5+2,none⟩=some (.string ⟨(L.getD i to0).e.ty.toArray⟩)/\w.cell? ⟨b,off+i*5+3,none⟩=some (.string ⟨(L.getD i to0).e.da.toArray⟩)/\w.cell? ⟨b,off+i*5+4,none⟩=some (.float .f64 (L.getD i to0).e.we):=by
 have Q:=h.len;have k0:=q5J L i 0 (by omega) (by decide);have k1:=q5J L i 1 (by omega) (by decide);have I:=q5J L i 2 (by omega) (by decide);have J:=q5J L i 3 (by omega) (by decide);have N:=q5J L i 4 (by omega) (by decide);obtain⟨b,off,rfl,q⟩:=h.rd _ _ k0;obtain⟨_,_,d,r⟩:=h.rd _ _ k1
 cases d;obtain⟨_,_,j,y⟩:=h.rd _ _ I
 cases j;obtain⟨_,_,m,D⟩:=h.rd _ _ J
 cases m;obtain⟨_,_,o,G⟩:=h.rd _ _ N
 cases o;exact⟨b,off,rfl,q,r,y,D,G⟩
theorem Tos.of_own{w:World}{B:Nat}{e:TypeId}{v:Value}{L:List To}(h:Own w B e 5 v L.length (q2q L)): ∃ao cap,v= .slice ao L.length cap/\Tos w ao L.length cap L:=by
 obtain⟨ao,cap,rfl,d,i,j,m⟩:=h.rd;exact⟨ao,cap,rfl,rfl,d,i,j,m⟩
theorem Tryz.infoTo :(Tryz.prog.info? 69).map (fun i=>(i.zero,i.size,i.bytes))=some (some (.agg #[.string ⟨#[]⟩,.int .i64 0,.string ⟨#[]⟩,.string ⟨#[]⟩,.float .f64 0]),5,64):=by kernel_rfl
theorem y0P(b:Nat): ∃x:Int,∀w:World,Calls Tryz.prog 264 #[.float .f64 b] w fun e w'=>e= .returned (.int .u64 x)/\w=w':=by
 by_cases h:((b:Int)<9223372036854775808)
 ·have i:decide ((9223372036854775808:Int)<=(b:Int))=false:=ε (by omega)
  refine⟨(b:Int)+9223372036854775808,fun w=>?_⟩;have d:=q5a;go_enter Tryz.func264,Tryz.ntmps264;go_wp2_with fail;go_ret;exact⟨rfl,rfl⟩
 ·have i:decide ((9223372036854775808:Int)<=(b:Int))=true:=ζ (by omega)
  refine⟨IntKind.u64.wrap (18446744073709551615-(b:Int)),fun w=>?_⟩;have d:=q5a;go_enter Tryz.func264,Tryz.ntmps264;go_wp2_with fail;go_ret;exact⟨rfl,rfl⟩
theorem z9D(b:Nat)(w:World):Calls Tryz.prog 205 #[.float .f64 b,.float .f64 b] w fun e w'=>e= .returned (.bool true)/\w=w':=by
 obtain⟨x,i⟩:=y0P b;have d:=η i;clear i;go_enter Tryz.func205,Tryz.ntmps205;go_wp2_with fail;refine(d.o _).mono ?_;rintro e w1 ⟨rfl,rfl⟩;go_wp2_with fail;refine(d.o _).mono ?_;rintro e w1 ⟨rfl,rfl⟩;go_wp2_with fail;go_ret;exact⟨by simp,rfl⟩
theorem z9E(e:Ev)(w:World):Calls Tryz.prog 145 #[evV e,evV e] w fun r w'=>r= .returned (.bool true)/\Ext w w':=by
 obtain⟨ty,da,we⟩:=e;have m:=q0B w (.cells #[.string ⟨ty.toArray⟩,.string ⟨da.toArray⟩,.float .f64 we] 67);have j:=q0B (w.alloc (.cells #[.string ⟨ty.toArray⟩,.string ⟨da.toArray⟩,.float .f64 we] 67)) (.cells #[.string ⟨ty.toArray⟩,.string ⟨da.toArray⟩,.float .f64 we] 67);have q:=η (m.trans j);have i:=(Blk.new w 67 #[.string ⟨ty.toArray⟩,.string ⟨da.toArray⟩,.float .f64 we]).ext j;have d:=Blk.new (w.alloc (.cells #[.string ⟨ty.toArray⟩,.string ⟨da.toArray⟩,.float .f64 we] 67)) 67 #[.string ⟨ty.toArray⟩,.string ⟨da.toArray⟩,.float .f64 we];rw[ρ] at d;have k0:=i.cell 0;have k1:=i.cell 1;have I:=i.cell 2;have y:=d.cell 0;have D:=d.cell 1;have G:=d.cell 2;clear m j i d;unfold evV;go_enter Tryz.func145,Tryz.ntmps145;go_wp2_with fail;refine(z9D we _).mono ?_;rintro e w1 ⟨rfl,rfl⟩;go_wp2_with fail;go_ret;exact⟨rfl,q.o⟩
theorem z9N(t:To)(w:World):Calls Tryz.prog 85 #[toV t,toV t] w fun r w'=>r= .returned (.bool true)/\Ext w w':=by
 obtain⟨s,v,⟨ty,da,we⟩⟩:=t;have m:=q0B w (.cells #[.string ⟨s.toArray⟩,.int .i64 v,.string ⟨ty.toArray⟩,.string ⟨da.toArray⟩,.float .f64 we] 69);have j:=q0B (w.alloc (.cells #[.string ⟨s.toArray⟩,.int .i64 v,.string ⟨ty.toArray⟩,.string ⟨da.toArray⟩,.float .f64 we] 69)) (.cells #[.string ⟨s.toArray⟩,.int .i64 v,.string ⟨ty.toArray⟩,.string ⟨da.toArray⟩,.float .f64 we] 69);have G:=η (m.trans j);have i:=(Blk.new w 69 #[.string ⟨s.toArray⟩,.int .i64 v,.string ⟨ty.toArray⟩,.string ⟨da.toArray⟩,.float .f64 we]).ext j;have d:=Blk.new (w.alloc (.cells #[.string ⟨s.toArray⟩,.int .i64 v,.string ⟨ty.toArray⟩,.string ⟨da.toArray⟩,.float .f64 we] 69)) 69 #[.string ⟨s.toArray⟩,.int .i64 v,.string ⟨ty.toArray⟩,.string ⟨da.toArray⟩,.float .f64 we];rw[ρ] at d;have k0:=i.cell 0;have k1:=i.cell 1;have R:=i.cell 2;have S:=i.cell 3;have U:=i.cell 4;have I:=d.cell 0;have J:=d.cell 1;have N:=d.cell 2;have O:=d.cell 3;have Q:=d.cell 4;have D:=η (fun W=>z9E ⟨ty,da,we⟩ W);clear m j i d;unfold toV;go_enter Tryz.func85,Tryz.ntmps85;go_wp2_with fail;refine(D.o _).mono ?_;rintro e w1 ⟨rfl,y⟩;have q:=η (G.o.trans y);clear y;go_wp2_with fail;go_ret;exact⟨rfl,q.o⟩
theorem z0A{N:Option Addr}{n d:Nat}{T:List To}(w:World)(y:Tos w ao n cap T)(D:Tos w N n d T):
  Calls Tryz.prog 34 #[.slice ao n cap,.slice N n d] w fun r w'=>r= .returned (.bool true)/\Ext w w':=by
 have O:=η y;have Q:=η D;have b1:=y.fits;have b2:=y.bound;have b3:=D.fits;have b4:=D.bound;clear y D;go_enter Tryz.func34,Tryz.ntmps34;go_wp2_with fail
 go_loopw [5] (fun i W=> ∃k:Nat,k<=n/\i= .int .i64 (k:Int)/\Ext w W) (fun i _=>n-(intOf i).toNat)
 case atStart=>exact⟨0,υ _,rfl,Ext.refl _⟩
 case round=>
  obtain⟨k,hk,rfl,m⟩:=hrel;have J:=η m;by_cases j:k<n
  ·have U:decide ((k:Int)<(n:Int))=true:=ζ (by omega)
   have X:(k:Int)<(n:Int):=by omega
   have q8:IntKind.i64.wrap ((k:Int)+1)=(k:Int)+1:=by rw[ν];omega
   obtain⟨ab,R,rfl,Z,a1,a2,a3,a4⟩:=(O.o.ext (m.trans (Ext.refl _).drew)).at j;obtain⟨bb,S,rfl,c0,c1,c2,c3,c4⟩:=(Q.o.ext (m.trans (Ext.refl _).drew)).at j;generalize T.getD k to0=t at*;have I:=η (z9N t);unfold toV at I;clear m;go_wp2_with fail
   go_region_law (go_simp;first|(go_at_call 85;refine(I.o _).mono ?_;rintro e wa ⟨rfl,q⟩;have G:=η ((J.o.trans (Ext.refl _).drew).trans q);clear q))
   all_goals
    go_wp2_with fail
    go_roundw
    case rel=>exact⟨k+1,by omega,by go_num,G.o⟩
    case measure=>simp[intOf];omega
  ·obtain rfl:k=n:=by omega
   have U:decide ((k:Int)<(k:Int))=false:=ε (by omega);clear m;go_wp2_with fail;go_ret;exact⟨rfl,J.o⟩
end
end Go.Proofs.YtfiibpgoplcgkaaGreatDoor
