/- Walks. -/
import Derived.Test.YthdekbmdkpcooaaGreatDoorG37CT
import Derived.Test.YthdekbmdkpcooaaGreatDoorG39CT
import Derived.WideKeyEntry
import Derived.Test.YthdekbmdkpcooaaGreatDoorG32CT
set_option linter.unusedVariables false
set_option linter.unusedSimpArgs false
set_option maxRecDepth 100000
set_option maxHeartbeats 12800000
namespace Go.Proofs.YthdekbmdkpcooaaGreatDoor
theorem η40 {p:Prop} (h:p):Go.RowKit.Hid p:=Lib.hid h
section
open Go.RowKit Go.Maps
def Man.S (m:Man):List UInt8:=(q3H m.nx m.ck m.sd m.L).1
theorem z3f {c:Int} (h:c≠0):q2E c≠0:=by
 rcases z4B c with e|e<;>rw[e]
 ·exact h
 ·decide
theorem z8G {σ τ:DM} {n e:Int} (h:q5X σ n=(none,e,τ)):e≠0:=by
 unfold q5X at h
 split at h
 ·next h1=>injection h with _ h2;injection h2 with h2 _;rw[←h2];exact z3f h1
 ·split at h
  ·injection h with _ h2;injection h2 with h2 _;rw[←h2];decide
  ·split at h
   ·injection h with _ h2;injection h2 with h2 _;rw[←h2];decide
   ·injection h with h1 _;cases h1
theorem z4A {σ τ:DM} {n e:Int} {L:List En} (h:q5X σ n=(some L,e,τ)):e=0:=by
 unfold q5X at h
 split at h
 ·injection h with h1 _;cases h1
 ·split at h
  ·injection h with h1 _;cases h1
  ·split at h
   ·injection h with h1 _;cases h1
   ·injection h with _ h2;injection h2 with h2 _;exact h2.symm
end
section
open Go.RowKit
abbrev Fls :=List UInt8→Option (List UInt8)
def z8p (φ:Fls) (nm:List UInt8):Fls:=fun x=>if x=nm then none else φ x
def Fl (σ:DM) (c s:Int) (φ:Fls) (u cnt:Nat):Prop:= ∃l,Pl σ c s l∧q3E Prod.fst l∧(∀nm,(q0H Prod.fst nm l).map Prod.snd=φ nm)∧q2M l≤u∧l.length≤cnt
section
variable {σ :DM} {c s:Int} {l:List (List UInt8×List UInt8)} {nm t a b:List UInt8} {x:List UInt8×List UInt8} {φ:Fls} {u cnt:Nat}
theorem Pl.delete (h:Pl σ c s l) (hf:q0H Prod.fst nm l=some x): ∃σ',q1S σ nm=(0,σ')∧Pl σ' c s (q2k Prod.fst nm l):=by
 obtain ⟨f,h1,rfl⟩:=h.find_some hf;refine ⟨{q2W σ with L:=q2k FM.nm nm σ.L},?_,h.up,h.fine,?_,h.cap,h.st⟩
 ·unfold q1S
  rw[if_neg (by rw[h.up];decide),h1,if_neg (by simp),if_neg (by rw[h.no];decide)]
 ·rw[←h.files]
  exact z3B (k:=FM.nm) (k':=Prod.fst) q7j nm σ.L
theorem Pl.deleteN (h:Pl σ c s l) (hf:q0H Prod.fst nm l=none):q1S σ nm=(4,σ):=by
 unfold q1S;rw[if_neg (by rw[h.up];decide),h.find_none hf,if_pos (by simp)]
theorem q8d (nm:List UInt8) (l:List (List UInt8×List UInt8)):q0H Prod.fst nm (q2k Prod.fst nm l)=none:=q0W fun y hy=>(mem_delN.1 hy).2
theorem z4b {nm d:List UInt8} (l:List (List UInt8×List UInt8)) (hne:nm≠d):q0H Prod.fst nm (q2k Prod.fst d l)=q0H Prod.fst nm l:=by
 unfold q0H q2k;rw[List.find?_filter]
 congr 1
 funext y
 by_cases hy:y.1=nm
 ·have h1:(y.1==nm)=true:=by simpa using hy
  have h2:(y.1==d)=false:=by rw[hy];simpa using hne
  rw[h1,h2];rfl
 ·have h1:(y.1==nm)=false:=by simpa using hy
  rw[h1];simp
theorem z5f (nm:List UInt8) (l:List (List UInt8×List UInt8)):q2M (q2k Prod.fst nm l)≤q2M l:=by
 unfold q2M q5d q2k
 induction l with
 |nil=>exact Nat.le_refl _
 | cons y r ih=>
  rw[List.filter_cons]
  split
  ·simp only[List.map_cons,List.sum_cons];omega
  ·simp only[List.map_cons,List.sum_cons];omega
theorem z9W (nm:List UInt8) (l:List (List UInt8×List UInt8)):(q2k Prod.fst nm l).length≤l.length:=List.length_filter_le _ _
theorem Fl.find (hl: ∀nm,(q0H Prod.fst nm l).map Prod.snd=φ nm) (h:φ nm=some t):q0H Prod.fst nm l=some (nm,t):=by
 have h1:=hl nm;rw[h] at h1
 cases hf:q0H Prod.fst nm l with
 |none=>rw[hf] at h1;cases h1
 | some y=>
  rw[hf] at h1;have h2:=(q0O hf).2;injection h1 with h1;rw[←h1,←h2]
theorem Fl.noFind (hl: ∀nm,(q0H Prod.fst nm l).map Prod.snd=φ nm) (h:φ nm=none):q0H Prod.fst nm l=none:=by
 have h1:=hl nm;rw[h] at h1
 cases hf:q0H Prod.fst nm l with
 |none=>rfl
 |some y=>rw[hf] at h1;cases h1
theorem Fl.cut (hl: ∀nm,(q0H Prod.fst nm l).map Prod.snd=φ nm) (nm:List UInt8): ∀x,(q0H Prod.fst x (q2k Prod.fst nm l)).map Prod.snd=z8p φ nm x:=fun x=>by
 unfold z8p;by_cases hx:x=nm
 ·subst hx;rw[if_pos rfl,q8d];rfl
 ·rw[if_neg hx,z4b l hx];exact hl x
theorem Fl.up (h:Fl σ c s φ u cnt):σ.down=false:=by obtain ⟨l,h1,_⟩:=h;exact h1.up
theorem Fl.mono (h:Fl σ c s φ u cnt) {u' cnt':Nat} (h1:u≤u') (h2:cnt≤cnt'):Fl σ c s φ u' cnt':=by
 obtain ⟨l,a1,a2,a3,a4,a5⟩:=h;exact ⟨l,a1,a2,a3,by omega,by omega⟩
theorem Fl.tell (h:Fl σ c s φ u cnt):Fl (q2N σ) c s φ u cnt:=by
 obtain ⟨l,a1,a2,a3,a4,a5⟩:=h;exact ⟨l,a1.tell,a2,a3,a4,a5⟩
theorem Fl.tells : ∀(k:Nat) {σ:DM},Fl σ c s φ u cnt→Fl (tellN k σ) c s φ u cnt
 |0,_,h=>h
 |k+1,σ,h=>by rw[q1i];exact Fl.tells k h.tell
theorem Fl.del (h:Fl σ c s φ u cnt) (hf:φ nm=some t): ∃σ',q1S σ nm=(0,σ')∧Fl σ' c s (z8p φ nm) u cnt:=by
 obtain ⟨l,a1,a2,a3,a4,a5⟩:=h;obtain ⟨σ',e,p⟩:=a1.delete (Fl.find a3 hf);exact ⟨σ',e,_,p,q8Q a2,Fl.cut a3 nm,Nat.le_trans (z5f nm l) a4,Nat.le_trans (z9W nm l) a5⟩
theorem Fl.wl (h:Fl σ c s φ u cnt) {n:Int} {L:List En} (hf:φ (q0G 116 n)=some (q8M L)):Wl σ n L:=by
 obtain ⟨l,a1,a2,a3,a4,a5⟩:=h;exact a1.wl (Fl.find a3 hf)
end
end
section
open Go.RowKit Go.Maps
theorem q9H {P:Program} {id:Nat} {Q:Exit→Act→World→Prop} {a:Act} {w:World} {l:List Oper} (n:Nat) (hm:P.follows .mixedOrders=true) (hB:Region.lexTailB .any l.toArray n=true)
  (h:wpStill P l.toArray w.drew (fun a'=>wpList P l.toArray Q (l.drop n) a' w.drew) (l.take n) a):(Code.region id l.toArray true).wp P Q a w:=
 wp_region_still_tail n hm hB h
section
variable {wb w w1 w2:World} {g gx gm gt:Nat} {st st1:IxSt} {F Y Y1 K K' V:Nat→Prop} {σ σ1:DM}
end
end
section
open Go.RowKit Go.Maps
section
variable {wb w w1 w2:World} {g gx gm gt:Nat} {st st1:IxSt} {F Y Y1 K K' V:Nat→Prop} {σ σ1:DM}
end
end
section
open Go.RowKit Go.Maps
section
variable {wb w0 w W W1 w1 w2:World} {g gx gm gt B:Nat} {st st1:IxSt} {F Y Y1 K K' V T:Nat→Prop} {σ σ1:DM} {va v v1 v2 vm:Value} {vs:List Value} {ns:List Int} {acc:List (List En)} {M L:List En}
end
end
section
open Go.RowKit
theorem q9L : ∀{a b:List En},q0q a→q0q b→(∀x∈a,x∈b)→a.Sublist b
 |[],b,_,_,_=>List.nil_sublist b
 |x::a,[],_,_,h=>absurd (h x (.head _)) (by simp)
 | x :: a,y::b,ha,hb,h=>by
  obtain ⟨h1,h2⟩:=List.pairwise_cons.1 ha;obtain ⟨h3,h4⟩:=List.pairwise_cons.1 hb;rcases List.mem_cons.1 (h x (.head _)) with e|hx
  ·subst e
   refine (q9L h2 h4 fun z hz=>?_).cons_cons x;rcases List.mem_cons.1 (h z (.tail _ hz)) with e|hz2
   ·have:=h1 z hz
    rw[e,q0Z] at this;cases this
   ·exact hz2
  ·refine (q9L ha h4 fun z hz=>?_).cons y
   rcases List.mem_cons.1 (h z hz) with e|hz2
   ·rcases List.mem_cons.1 hz with e2|hz3
    ·rw[e2];exact hx
    ·have h5:=h1 z hz3
     have h6:=h3 x hx;rw[e] at h5;have:=q1K h5 h6;rw[q0Z] at this;cases this
   ·exact hz2
theorem q4P {a b:List En} (ha:q0q a) (hb:q0q b) (h: ∀x∈a,x∈b):a.length≤b.length:=(q9L ha hb h).length_le
def TL (st:IxSt) (n:Int):List En:=match st.t n with|some e=>e.L|none=>[]
theorem q3P {st:IxSt} {n:Int} {e:TE} (h:st.t n=some e):TL st n=e.L:=by unfold TL;rw[h]
structure PInv (st:IxSt) (σ:DM) (c s:Int) (φ:Fls) (u cnt:Nat) (B:List En):Prop where
 fl:Fl σ c s φ u cnt
 man:st.m.ok
 full:st.full
 tb: ∀n e,st.t n=some e→n∈st.m.L.flatten∧φ (q0G 116 n)=some (q8M e.L)∧(∃y,φ (q0G 98 n)=some y)∧okM e.L∧ ∀x∈e.L,e.may x.1=true
 only: ∀nm,φ nm≠none→nm=mapN∨(∃n∈st.m.L.flatten,nm=q0G 116 n∨nm=q0G 98 n)∨ ∃k:Nat,k≤999999∧nm=q0G 99 (k:Int)
 okw:okM st.w
 okB:okM B
 mem: ∀x,x∈B↔x∈st.w∨ ∃n e,st.t n=some e∧x∈e.L
section
variable {st :IxSt} {σ σ':DM} {c s:Int} {φ:Fls} {u cnt:Nat} {B:List En}
theorem PInv.range (h:PInv st σ c s φ u cnt B) {n:Int} (hn:n∈st.m.L.flatten):0≤n∧n≤999999∧n<st.m.nx:=by
 have hb:=Man.bounds h.man;have:=hb.2.2.2.1 n hn;omega
theorem PInv.tell (h:PInv st σ c s φ u cnt B) (k:Nat):PInv st (tellN k σ) c s φ u cnt B:=⟨Fl.tells k h.fl,h.man,h.full,h.tb,h.only,h.okw,h.okB,h.mem⟩
theorem PInv.mono (h:PInv st σ c s φ u cnt B) {u' cnt':Nat} (h1:u≤u') (h2:cnt≤cnt'):PInv st σ c s φ u' cnt' B:=⟨h.fl.mono h1 h2,h.man,h.full,h.tb,h.only,h.okw,h.okB,h.mem⟩
theorem PInv.wlen (h:PInv st σ c s φ u cnt B):st.w.length≤B.length:=q4P h.okw.sort h.okB.sort fun x hx=>(h.mem x).2 (.inl hx)
theorem PInv.tlen (h:PInv st σ c s φ u cnt B) {n:Int} {e:TE} (he:st.t n=some e):e.L.length≤B.length:=q4P (h.tb n e he).2.2.2.1.sort h.okB.sort fun x hx=>(h.mem x).2 (.inr ⟨n,e,he,hx⟩)
theorem PInv.wl (h:PInv st σ c s φ u cnt B) {n:Int} {e:TE} (he:st.t n=some e):Wl σ n e.L:=h.fl.wl (h.tb n e he).2.1
theorem PInv.add (h:PInv st σ c s φ u cnt B) {x:En} (hx:q3J x=true) (hl:B.length<50000):PInv {st with w:=q3V x st.w} σ c s φ u cnt (q3V x B):=by
 have hw:=h.wlen;refine ⟨h.fl,h.man,h.full,h.tb,h.only,h.okw.add hx (by omega),h.okB.add hx hl,fun y=>?_⟩;show y∈q3V x B↔y∈q3V x st.w∨_;rw[mem_addE,mem_addE,h.mem y]
 constructor
 ·rintro (h1|h1|h1)
  ·exact .inl (.inl h1)
  ·exact .inl (.inr h1)
  ·exact .inr h1
 ·rintro ((h1|h1)|h1)
  ·exact .inl h1
  ·exact .inr (.inl h1)
  ·exact .inr (.inr h1)
theorem z0c (h:PInv st σ c s φ u cnt B) (x a b:Int): ∀(ns:List Int) (acc:List (List En)) (k0:Nat),(∀n∈ns,n∈st.m.L.flatten)→
  ∃k,q3O st x (max a 0) (min b 1073741824) (tellN k0 σ) ns acc=(acc++ns.map (fun n=>q0m (TL st n) x (max a 0) (min b 1073741824)),0,tellN k σ)
 |[],acc,k0,_=>⟨k0,by rw[q3O];simp⟩
 | n::ns,acc,k0,hn=>by
  obtain ⟨e,he⟩:=h.full n (hn n (by simp));have ht:=h.tb n e he;obtain ⟨k,_,_,hr⟩:=z5U ((h.wl he).tellN k0) ht.2.2.2.1.sort ht.2.2.2.1.ok ht.2.2.2.2 x (max a 0) (min b 1073741824);rw[show max (max a 0) 0=max a 0 by omega,show min (min b 1073741824) 1073741824=min b 1073741824 by omega,q3B] at hr;obtain ⟨k2,h2⟩:=z0c h x a b ns (acc++[q0m e.L x (max a 0) (min b 1073741824)]) (k0+k) (fun y hy=>hn y (by simp[hy]));refine ⟨k2,?_⟩;rw[q3O,he];simp only;rw[hr];simp only;rw[if_neg (fun h=>h rfl),h2,List.map_cons,q3P he,List.append_assoc]
  rfl
theorem mem_range {L:List En} {x a b:Int} {y:En}:y∈q0m L x a b↔y∈L∧y.1=x∧a≤y.2.1∧y.2.1≤b:=by
 unfold q0m;rw[List.mem_filter];simp only[Bool.and_eq_true,decide_eq_true_eq]
 constructor
 ·rintro ⟨h1,⟨h2,h3⟩,h4⟩;exact ⟨h1,h2,h3,h4⟩
 ·rintro ⟨h1,h2,h3,h4⟩;exact ⟨h1,⟨h2,h3⟩,h4⟩
theorem q4U {L:List En} (h:q0q L) (x a b:Int):q0q (q0m L x a b):=h.filter _
theorem z8w (h:PInv st σ c s φ u cnt B) (n:Int):q0q (TL st n)∧(∀x∈TL st n,q3J x=true)∧(TL st n).length≤B.length:=by
 unfold TL
 cases he:st.t n with
 |none=>exact ⟨List.Pairwise.nil,fun x hx=>by simp at hx,Nat.zero_le _⟩
 |some e=>exact ⟨(h.tb n e he).2.2.2.1.sort,(h.tb n e he).2.2.2.1.ok,h.tlen he⟩
theorem z6n {L:List (List En)} {k:Nat} (h: ∀l∈L,l.length≤k):L.flatten.length≤L.length*k:=by
 induction L with
 |nil=>simp
 | cons a r ih=>
  rw[List.flatten_cons,List.length_append,List.length_cons,Nat.add_mul];have h1:=h a (by simp);have h2:=ih fun l hl=>h l (by simp[hl])
  omega
theorem PInv.rangeIs (h:PInv st σ c s φ u cnt B) (x a b:Int): ∃k R,q3O st x (max a 0) (min b 1073741824) σ st.m.L.flatten [q0m st.w x (max a 0) (min b 1073741824)]=(R,0,tellN k σ)∧(∀L∈R,q0q L)∧R.flatten.length≤41*B.length∧q2S R=q0m B x (max a 0) (min b 1073741824):=by
 obtain ⟨k,e⟩:=z0c h x a b st.m.L.flatten [q0m st.w x (max a 0) (min b 1073741824)] 0 (fun n hn=>hn);have hS: ∀L∈[q0m st.w x (max a 0) (min b 1073741824)]++st.m.L.flatten.map (fun n=>q0m (TL st n) x (max a 0) (min b 1073741824)),q0q L∧L.length≤B.length:=fun L hL=>by
  rcases List.mem_append.1 hL with hL|hL
  ·rw[List.mem_singleton.1 hL]
   exact ⟨q4U h.okw.sort _ _ _,Nat.le_trans (List.length_filter_le _ _) h.wlen⟩
  ·obtain ⟨n,hn,rfl⟩:=List.mem_map.1 hL
   have:=z8w h n;exact ⟨q4U this.1 _ _ _,Nat.le_trans (List.length_filter_le _ _) this.2.2⟩
 refine ⟨k,_,e,fun L hL=>(hS L hL).1,?_,?_⟩
 ·have h1:=z6n fun l hl=>(hS l hl).2
  rw[List.length_append,List.length_map] at h1;have h2:=(Man.bounds h.man).2.1;simp only[List.length_cons,List.length_nil] at h1;have:(0+1+st.m.L.flatten.length)*B.length≤41*B.length:=Nat.mul_le_mul_right _ (by omega);omega
 ·refine q5g (q4h _) (q4U h.okB.sort _ _ _) fun y=>?_
  rw[mem_union,mem_range,h.mem y]
  constructor
  ·rintro ⟨L,hL,hy⟩
   rcases List.mem_append.1 hL with hL|hL
   ·rw[List.mem_singleton.1 hL,mem_range] at hy
    exact ⟨.inl hy.1,hy.2⟩
   ·obtain ⟨n,hn,rfl⟩:=List.mem_map.1 hL
    rw[mem_range] at hy;obtain ⟨e,he⟩:=h.full n hn;rw[q3P he] at hy;exact ⟨.inr ⟨n,e,he,hy.1⟩,hy.2⟩
  ·rintro ⟨h1|⟨n,e,he,h1⟩,h2⟩
   ·exact ⟨_,List.mem_append.2 (.inl (List.mem_singleton.2 rfl)),mem_range.2 ⟨h1,h2⟩⟩
   ·exact ⟨_,List.mem_append.2 (.inr (List.mem_map.2 ⟨n,(h.tb n e he).1,rfl⟩)),mem_range.2 ⟨by rw[q3P he];exact h1,h2⟩⟩
end
end
section
open Go.RowKit
theorem z6z {c c':UInt8} (hc:q1s c=true) (hc':q1s c'=true) {n m:Int} (hn:0≤n∧n≤999999) (hm:0≤m∧m≤999999) (h:q0G c n=q0G c' m):c=c'∧n=m:=by
 have h1:=q1u hc hn;rw[h,q1u hc' hm] at h1;injection h1 with h1 h2;injection h2 with h2 _;exact ⟨h1.symm,by omega⟩
theorem y0a :q1s 116=true:=by decide
theorem y2D :q1s 98=true:=by decide
theorem y1r :q1s 99=true:=by decide
theorem q3X {k:Nat} (hk:k≤999999):q0G 99 (k:Int)≠mapN∧q0G 99 (k:Int)≠z3n:=by
 rw[q0X (by omega)];exact ⟨fun e=>absurd (List.cons.inj e).1 (by decide),fun e=>absurd (List.cons.inj e).1 (by decide)⟩
theorem z2U {c:UInt8} (hc:c=116∨c=98) {n:Int} (hn:0≤n∧n≤999999):q0G c n≠mapN∧q0G c n≠z3n:=by
 rw[q0X hn];rcases hc with rfl|rfl
 ·exact ⟨fun e=>absurd (List.cons.inj e).1 (by decide),fun e=>absurd (List.cons.inj e).1 (by decide)⟩
 ·exact ⟨fun e=>absurd (List.cons.inj e).1 (by decide),fun e=>absurd (List.cons.inj e).1 (by decide)⟩
section
variable {st :IxSt} {σ σ':DM} {c s:Int} {φ:Fls} {u cnt:Nat} {B:List En}
theorem PInv.noNew (h:PInv st σ c s φ u cnt B):φ z3n=none:=by
 cases he:φ z3n with
 |none=>rfl
 | some y=>
  exfalso
  rcases h.only z3n (by rw[he];simp) with e|⟨m,hm,e|e⟩|⟨k,hk,e⟩
  ·exact z3o e
  ·have hr:=h.range hm
   exact (z2U (.inl rfl) (show 0≤m∧m≤999999 by omega)).2 e.symm
  ·have hr:=h.range hm
   exact (z2U (.inr rfl) (show 0≤m∧m≤999999 by omega)).2 e.symm
  ·exact (q3X hk).2 e.symm
end
end
section
open Go.RowKit
section
variable {st :IxSt} {σ σ':DM} {c s:Int} {φ:Fls} {u cnt:Nat} {B:List En}
theorem PInv.unionLe (h:PInv st σ c s φ u cnt B) (ns:List Int):okM (q2S (ns.map (TL st)))∧(q2S (ns.map (TL st))).length≤B.length∧ ∀x∈q2S (ns.map (TL st)),x∈B:=by
 have hm: ∀x∈q2S (ns.map (TL st)),x∈B:=fun x hx=>by
  obtain ⟨L,hL,hx2⟩:=mem_union.1 hx;obtain ⟨n,hn,rfl⟩:=List.mem_map.1 hL;unfold TL at hx2
  cases he:st.t n with
  |none=>rw[he] at hx2;simp at hx2
  |some e=>rw[he] at hx2;exact (h.mem x).2 (.inr ⟨n,e,he,hx2⟩)
 have hl:=q4P (q4h (ns.map (TL st))) h.okB.sort hm;exact ⟨⟨q4h _,fun x hx=>h.okB.ok x (hm x hx),by have:=h.okB.len;omega⟩,hl,hm⟩
def z2h (B:List En) (x u r:Int):Prop:=(∀y∈B,y.1=x→y.2.1≤u→y.2.1≤r)∧((r= -1)∨ ∃y∈B,y.1=x∧y.2.1≤u∧y.2.1=r)
theorem q6O {L:List En} (hs:q0q L) (x u:Int):z2h L x u (z4K L x u):=by
 unfold z4K q2p
 cases hl:(L.filter (inE x u)).getLast? with
 | none=>
  have:=List.getLast?_eq_none_iff.1 hl;refine ⟨fun y hy h1 h2=>?_,.inl rfl⟩;have:y∈L.filter (inE x u):=List.mem_filter.2 ⟨hy,by unfold inE;simp[h1,h2]⟩;rw[List.getLast?_eq_none_iff.1 hl] at this
  cases this
 | some e=>
  have hme:=List.mem_of_getLast? hl;obtain ⟨m1,m2⟩:=List.mem_filter.1 hme;unfold inE at m2;simp only[Bool.and_eq_true,decide_eq_true_eq] at m2;refine ⟨fun y hy h1 h2=>?_,.inr ⟨e,m1,m2.1,m2.2,rfl⟩⟩;have hyf:y∈L.filter (inE x u):=List.mem_filter.2 ⟨hy,by unfold inE;simp[h1,h2]⟩;have hsf:q0q (L.filter (inE x u)):=hs.filter _;obtain ⟨l,hl2⟩:=List.getLast?_eq_some_iff.1 hl;rw[hl2] at hyf hsf;rcases List.mem_append.1 hyf with h3|h3
  ·have h4:=(List.pairwise_append.1 hsf).2.2 y h3 e (by simp)
   rw[lessE_iff] at h4;show y.2.1≤e.2.1;omega
  ·rw[List.mem_singleton.1 h3];exact Int.le_refl _
end
end
section
open Go.RowKit
structure To where
 s:List UInt8
 v:Int
 e:Ev
def to0 :To:=⟨[],0,ev0⟩
def q9R (s:List UInt8):Nat→List Ev→List To
 |_,[]=>[]
 |i,e::r=>⟨s,(i:Int),e⟩::q9R s (i+1) r
def y1U (b:Bt):List To:=q9R b.st b.fi b.ev
def tos (bs:List Bt):List To:=(bs.map y1U).flatten
def q0u (bs:List Bt) (s:List UInt8):List Ev:=((bs.filter fun b=>decide (b.st=s)).map Bt.ev).flatten
def q8K (bs:List Bt) (s:List UInt8):List To:=q9R s 0 (q0u bs s)
def okBs (bs:List Bt):Prop:= ∀l b r,bs=l++b::r→z4L b∧b.fi=(q0u l b.st).length
theorem q8q {α:Type} {P:List α→Prop} (h0:P []) (h1: ∀l a,P l→P (l++[a])) (l:List α):P l:=by
 have h : ∀n,∀l:List α,l.length=n→P l:=fun n=>by
  induction n with
  |zero=>intro l hl;rw[List.length_eq_zero_iff.1 hl];exact h0
  | succ n ih=>
   intro l hl;rcases List.eq_nil_or_concat l with e|⟨m,a,e⟩
   ·rw[e] at hl;simp at hl
   ·rw[List.concat_eq_append] at e
    subst e;exact h1 m a (ih m (by simpa using hl))
 exact h _ l rfl
theorem q1r (s:List UInt8): ∀(L:List Ev) (i:Nat),(q9R s i L).length=L.length
 |[],_=>rfl
 |e::r,i=>by rw[q9R,List.length_cons,q1r s r,List.length_cons]
theorem q7E (s:List UInt8): ∀(a b:List Ev) (i:Nat),q9R s i (a++b)=q9R s i a++q9R s (i+a.length) b
 |[],b,i=>rfl
 | e::r,b,i=>by
  rw[List.cons_append,q9R,q7E s r b,q9R,List.cons_append,List.length_cons]
  congr 3;omega
theorem numT_mem {s:List UInt8} {t:To}: ∀{L:List Ev} {i:Nat},t∈q9R s i L↔ ∃k,k<L.length∧t=⟨s,((i+k:Nat):Int),L.getD k ev0⟩
 |[],i=>by simp[q9R]
 | e ::r,i=>by
  rw[q9R,List.mem_cons,numT_mem]
  constructor
  ·rintro (h|⟨k,h1,h2⟩)
   ·exact ⟨0,by simp,by rw[h];rfl⟩
   ·exact ⟨k+1,by simpa using h1,by rw[h2,List.getD_cons_succ];congr 2;omega⟩
  ·rintro ⟨k,h1,h2⟩
   cases k with
   |zero=>exact .inl h2
   |succ k=>exact .inr ⟨k,by simpa using h1,by rw[h2,List.getD_cons_succ];congr 2;omega⟩
theorem q5e (s:List UInt8) (a b:Int): ∀(L:List Ev) (i:Nat),(q9R s i L).filter (fun t=>decide (a≤t.v∧t.v≤b))=((q9R s i L).drop (a-(i:Int)).toNat).take ((b+1-(i:Int)).toNat-(a-(i:Int)).toNat)
 |[],i=>by simp[q9R]
 | e ::r,i=>by
  have ih:=q5e s a b r (i+1);rw[q9R];by_cases h1:a≤(i:Int)
  ·have h0:(a-(i:Int)).toNat=0:=by omega
   have h0':(a-((i+1:Nat):Int)).toNat=0:=by omega
   rw[h0,List.drop_zero,Nat.sub_zero];rw[h0',List.drop_zero,Nat.sub_zero] at ih;by_cases h2:(i:Int)≤b
   ·rw[List.filter_cons_of_pos (by simp;omega),ih,show (b+1-(i:Int)).toNat=(b+1-((i+1:Nat):Int)).toNat+1 by omega,List.take_succ_cons]
   ·rw[List.filter_cons_of_neg (by simp;omega),ih,show (b+1-(i:Int)).toNat=0 by omega,show (b+1-((i+1:Nat):Int)).toNat=0 by omega,List.take_zero,List.take_zero]
  ·have h0:(a-(i:Int)).toNat=(a-((i+1:Nat):Int)).toNat+1:=by omega
   rw[List.filter_cons_of_neg (by simp;omega),ih,h0,List.drop_succ_cons]
   congr 1
   omega
theorem z5w (s:List UInt8): ∀(L:List Ev) (i:Nat),(q9R s i L).Pairwise fun x y=>x.v<y.v
 |[],_=>List.Pairwise.nil
 | e ::r,i=>List.pairwise_cons.2 ⟨fun t ht=>by
   obtain ⟨k,_,rfl⟩:=numT_mem.1 ht
   simp only;omega,z5w s r _⟩
theorem q4V (a b:List Bt):tos (a++b)=tos a++tos b:=by unfold tos;rw[List.map_append,List.flatten_append]
theorem q9A (b:Bt):tos [b]=y1U b:=by unfold tos;simp
theorem q3e (b:Bt):(y1U b).length=b.ev.length:=q1r _ _ _
theorem q7z (bs:List Bt) (b:Bt) (s:List UInt8):q0u (bs++[b]) s=if b.st=s then q0u bs s++b.ev else q0u bs s:=by
 unfold q0u;rw[List.filter_append,List.map_append,List.flatten_append]
 split
 ·rename_i h;rw[List.filter_cons_of_pos (by simpa using h)];simp
 ·rename_i h;rw[List.filter_cons_of_neg (by simpa using h)];simp
theorem okBs.nil :okBs []:=fun l b r h=>by simp at h
theorem okBs_snoc {bs:List Bt} {b:Bt}:okBs (bs++[b])↔okBs bs∧z4L b∧b.fi=(q0u bs b.st).length:=by
 constructor
 ·intro h
  exact ⟨fun l c r e=>h l c (r++[b]) (by rw[e];simp),h bs b [] rfl⟩
 ·rintro ⟨h1,h2⟩ l c r e
  rcases List.eq_nil_or_concat r with e1|⟨r',d,e1⟩
  ·subst e1
   obtain ⟨e2,e3⟩:=List.append_inj' e rfl;rw[←e2];injection e3 with e3;subst e3;exact h2
  ·rw[List.concat_eq_append] at e1
   subst e1;have e':bs++[b]=(l++c::r')++[d]:=by rw[e];simp
   obtain ⟨e2,_⟩:=List.append_inj' e' rfl;exact h1 l c r' e2
theorem z0t {bs:List Bt} (h:okBs bs) (s:List UInt8):(tos bs).filter (fun t=>decide (t.s=s))=q8K bs s:=by
 revert h
 induction bs using q8q with
 |h0=>intro _;rfl
 | h1 l b ih=>
  intro h;obtain ⟨h1,h2,h3⟩:=okBs_snoc.1 h;unfold q8K;rw[q4V,List.filter_append,ih h1,q9A,q7z];by_cases hs:b.st=s
  ·rw [if_pos hs,q7E,Nat.zero_add,←hs,←h3,List.filter_eq_self.2]
   ·rfl
   ·intro t ht
    obtain ⟨k,_,rfl⟩:=numT_mem.1 ht;simp
  ·rw [if_neg hs,List.filter_eq_nil_iff.2,List.append_nil]
   ·rfl
   ·intro t ht
    obtain ⟨k,_,rfl⟩:=numT_mem.1 ht
    simpa using hs
theorem z9o {bs:List Bt} {t:To}:t∈tos bs↔ ∃b∈bs,∃k,k<b.ev.length∧t=⟨b.st,((b.fi+k:Nat):Int),b.ev.getD k ev0⟩:=by
 unfold tos;rw[List.mem_flatten]
 constructor
 ·rintro ⟨l,hl,ht⟩
  obtain ⟨b,hb,rfl⟩:=List.mem_map.1 hl;exact ⟨b,hb,numT_mem.1 ht⟩
 ·rintro ⟨b,hb,hk⟩
  exact ⟨_,List.mem_map.2 ⟨b,hb,rfl⟩,numT_mem.2 hk⟩
theorem okBs.each {bs:List Bt} (h:okBs bs) {b:Bt} (hb:b∈bs):z4L b:=by
 obtain ⟨l,r,rfl⟩:=List.append_of_mem hb;exact (h l b r rfl).1
theorem q5r (a b:List Bt) (s:List UInt8):q0u (a++b) s=q0u a s++q0u b s:=by
 unfold q0u;rw[List.filter_append,List.map_append,List.flatten_append]
theorem okBs.apart {l m r:List Bt} {b c:Bt} (h:okBs (l++b::m++c::r)) (hs:b.st=c.st):b.fi+b.ev.length≤c.fi:=by
 have h1:=h l b (m++c::r) (by simp);have h2:=h (l++b::m) c r (by simp);rw[h2.2,h1.2,q5r,List.length_append,show b::m=[b]++m from rfl,q5r,List.length_append,←hs];have:(q0u [b] b.st).length=b.ev.length:=by unfold q0u;simp
 omega
theorem y0m {l m:List To} (hl:l.Pairwise fun x y=>x.v<y.v) (hm:m.Pairwise fun x y=>x.v<y.v) (h: ∀t,t∈l↔t∈m):l=m:=by
 induction l generalizing m with
 | nil=>
  cases m with
  |nil=>rfl
  |cons y m=>exact absurd ((h y).2 (.head _)) (by simp)
 | cons x l ih=>
  cases m with
  |nil=>exact absurd ((h x).1 (.head _)) (by simp)
  | cons y m=>
   obtain ⟨h1,h2⟩:=List.pairwise_cons.1 hl;obtain ⟨h3,h4⟩:=List.pairwise_cons.1 hm;have hxy:x=y:=by
    rcases List.mem_cons.1 ((h x).1 (.head _)) with e|hx
    ·exact e
    rcases List.mem_cons.1 ((h y).2 (.head _)) with e|hy
    ·exact e.symm
    have a:=h1 y hy;have b:=h3 x hx;omega
   subst hxy;rw[ih h2 h4 fun t=>?_]
   constructor
   ·intro ht
    rcases List.mem_cons.1 ((h t).1 (.tail _ ht)) with e|ht2
    ·have:=h1 t ht;rw[e] at this;omega
    ·exact ht2
   ·intro ht
    rcases List.mem_cons.1 ((h t).2 (.tail _ ht)) with e|ht2
    ·have:=h3 t ht;rw[e] at this;omega
    ·exact ht2
end
section
open Go.RowKit
abbrev Pbs :=List (Nat×Bt)
def z4J (P:Pbs):List (Nat×List UInt8):=P.map fun x=>(x.1,btB x.2)
def q4N (sd:Int) (P:Pbs):List En:=(P.map fun x=>q0a sd x.1 x.2 x.2.ev.length).flatten
def q1k (P:Pbs):List Bt:=P.map Prod.snd
def q2D (P:Pbs) (s:List UInt8) (x:En):Option To:=
 match P.find? (fun y=>decide ((y.1:Int)=x.2.2)) with
 |none=>none
 |some y=>if y.2.st=s∧(y.2.fi:Int)≤x.2.1∧x.2.1<(y.2.fi:Int)+(y.2.ev.length:Int) then some ⟨s,x.2.1,y.2.ev.getD (x.2.1-(y.2.fi:Int)).toNat ev0⟩ else none
structure StI (sd:Int) (B:List En) (P:Pbs):Prop where
 ok:okBs (q1k P)
 pos:P.Pairwise fun a b=>a.1<b.1
 ents: ∀x,x∈B↔x∈q4N sd P
theorem z0E (sd:Int): ∀{P:Pbs},(∀y∈P,z4L y.2)→z0i sd (z4J P)=some (q4N sd P)
 |[],_=>rfl
 | y::P,h=>by
  have ih:=z0E sd (P:=P) fun z hz=>h z (.tail _ hz)
  have h1:=z4Z y.2 (h y (.head _));unfold z4J at ih⊢;rw[List.map_cons,z0i,h1,Option.bind_some,ih]
  rfl
theorem mem_entsP {sd:Int} {P:Pbs} {x:En}:x∈q4N sd P↔ ∃y∈P,∃k,k<y.2.ev.length∧x=q2Z sd y.1 y.2 k:=by
 unfold q4N;rw[List.mem_flatten]
 constructor
 ·rintro ⟨l,hl,hx⟩
  obtain ⟨y,hy,rfl⟩:=List.mem_map.1 hl;unfold q0a at hx;obtain ⟨k,hk,rfl⟩:=List.mem_map.1 hx;exact ⟨y,hy,k,List.mem_range.1 hk,rfl⟩
 ·rintro ⟨y,hy,k,hk,rfl⟩
  exact ⟨_,List.mem_map.2 ⟨y,hy,rfl⟩,by unfold q0a;exact List.mem_map.2 ⟨k,List.mem_range.2 hk,rfl⟩⟩
theorem z2a : ∀{P:Pbs},P.Pairwise (fun a b=>a.1<b.1)→ ∀{y:Nat×Bt},y∈P→P.find? (fun z=>decide ((z.1:Int)=(y.1:Int)))=some y
 |[],_,y,h=>by cases h
 | z ::P,hp,y,h=>by
  obtain ⟨h1,h2⟩:=List.pairwise_cons.1 hp;rcases List.mem_cons.1 h with rfl|h
  ·rw[List.find?_cons_of_pos (by simp)]
  ·rw[List.find?_cons_of_neg (by have:=h1 y h;simp;omega)]
   exact z2a h2 h
section
variable {sd :Int} {B:List En} {P:Pbs}
theorem q5c (h:P.Pairwise fun a b=>a.1<b.1) {y:Nat×Bt} (hy:y∈P) {k:Nat} (hk:k<y.2.ev.length) (s:List UInt8):q2D P s (q2Z sd y.1 y.2 k)=if y.2.st=s then some ⟨s,((y.2.fi+k:Nat):Int),y.2.ev.getD k ev0⟩ else none:=by
 unfold q2D q2Z;simp only;rw[z2a h hy];simp only;by_cases hs:y.2.st=s
 ·rw[if_pos hs,if_pos ⟨hs,by omega,by omega⟩,show ((y.2.fi:Int)+(k:Int)-(y.2.fi:Int)).toNat=k by omega]
  congr 1
 ·rw[if_neg hs,if_neg fun h=>hs h.1]
theorem StI.found (h:StI sd B P) {s:List UInt8} {x:En} (hx:x∈B) {t:To}:q2D P s x=some t↔ ∃y∈P,∃k,k<y.2.ev.length∧x=q2Z sd y.1 y.2 k∧y.2.st=s∧t=⟨s,((y.2.fi+k:Nat):Int),y.2.ev.getD k ev0⟩:=by
 obtain ⟨y,hy,k,hk,rfl⟩:=mem_entsP.1 ((h.ents x).1 hx);rw[q5c h.pos hy hk]
 constructor
 ·intro hf
  split at hf
  ·rename_i hs
   injection hf with hf;exact ⟨y,hy,k,hk,rfl,hs,hf.symm⟩
  ·cases hf
 ·rintro ⟨z,hz,j,hj,he,hs,rfl⟩
  have h1:=q5c (sd:=sd) h.pos hy hk s;have h2:=q5c (sd:=sd) h.pos hz hj s;rw[←he,h1,if_pos hs] at h2;exact h2
theorem StI.mem_str (h:StI sd B P) {s:List UInt8} {t:To}:t∈q8K (q1k P) s↔ ∃y∈P,∃k,k<y.2.ev.length∧y.2.st=s∧t=⟨s,((y.2.fi+k:Nat):Int),y.2.ev.getD k ev0⟩:=by
 rw[←z0t h.ok,List.mem_filter,z9o]
 constructor
 ·rintro ⟨⟨b,hb,k,hk,rfl⟩,hs⟩
  obtain ⟨y,hy,rfl⟩:=List.mem_map.1 hb;simp only[decide_eq_true_eq] at hs;exact ⟨y,hy,k,hk,hs,by rw[hs]⟩
 ·rintro ⟨y,hy,k,hk,hs,rfl⟩
  exact ⟨⟨y.2,List.mem_map.2 ⟨y,hy,rfl⟩,k,hk,by rw[hs]⟩,by simp⟩
theorem StI.between (h:StI sd B P) (hB:q0q B) (s:List UInt8) (a b:Int):(q0m B (q2P sd s) a b).filterMap (q2D P s)=(q8K (q1k P) s).filter fun t=>decide (a≤t.v∧t.v≤b):=by
 refine y0m ?_ ((z5w _ _ _).filter _) fun t=>?_
 ·rw [List.pairwise_filterMap]
  refine List.Pairwise.imp_of_mem ?_ (q4U hB (q2P sd s) a b);intro x y hx hy hxy t ht u hu;obtain ⟨hx1,hx2,hx3,hx4⟩:=mem_range.1 hx;obtain ⟨hy1,hy2,hy3,hy4⟩:=mem_range.1 hy;obtain ⟨p,hp,i,hi,rfl,hs1,rfl⟩:=(h.found hx1).1 ht;obtain ⟨q,hq,j,hj,rfl,hs2,rfl⟩:=(h.found hy1).1 hu;rw[lessE_iff] at hxy;unfold q2Z at hxy;simp only at hxy⊢;rw[hs1,hs2] at hxy;rcases hxy with hxy|⟨_,hxy|⟨he,hpq⟩⟩
  ·omega
  ·omega
  ·exfalso
   obtain ⟨l,r,hl⟩:=List.append_of_mem hp;have hok:=h.ok;have hpos:=h.pos;rw[hl] at hok hpos hq;rcases List.mem_append.1 hq with hq|hq
   ·have:=(List.pairwise_append.1 hpos).2.2 q hq p (.head _)
    omega
   ·rcases List.mem_cons.1 hq with hq|hq
    ·rw[hq] at hpq;omega
    ·obtain ⟨m,r2,hm⟩:=List.append_of_mem hq
     rw[hm] at hok;unfold q1k at hok;rw[List.map_append,List.map_cons,List.map_append,List.map_cons] at hok;have:=okBs.apart (l:=l.map Prod.snd) (b:=p.2) (m:=m.map Prod.snd) (c:=q.2) (r:=r2.map Prod.snd) (by rw[List.append_assoc,List.cons_append];exact hok) (by rw[hs1,hs2]);omega
 ·rw [List.mem_filterMap,List.mem_filter,h.mem_str,decide_eq_true_eq]
  constructor
  ·rintro ⟨x,hx,ht⟩
   obtain ⟨hx1,hx2,hx3,hx4⟩:=mem_range.1 hx;obtain ⟨y,hy,k,hk,rfl,hs,rfl⟩:=(h.found hx1).1 ht;unfold q2Z at hx3 hx4;simp only at hx3 hx4⊢;exact ⟨⟨y,hy,k,hk,hs,rfl⟩,by omega,by omega⟩
  ·rintro ⟨⟨y,hy,k,hk,hs,rfl⟩,h1,h2⟩
   simp only at h1 h2;have hx:q2Z sd y.1 y.2 k∈B:=(h.ents _).2 (mem_entsP.2 ⟨y,hy,k,hk,rfl⟩);refine ⟨q2Z sd y.1 y.2 k,mem_range.2 ⟨hx,?_,?_,?_⟩,(h.found hx).2 ⟨y,hy,k,hk,rfl,hs,rfl⟩⟩
   ·unfold q2Z;simp only;rw[hs]
   ·unfold q2Z;simp only;omega
   ·unfold q2Z;simp only;omega
theorem q3h (bs:List Bt) (s:List UInt8):(q8K bs s).length=(q0u bs s).length:=q1r _ _ _
theorem StI.has (h:StI sd B P) {s:List UInt8} {v:Nat} (hv:v<(q0u (q1k P) s).length): ∃x∈B,x.1=q2P sd s∧x.2.1=(v:Int):=by
 have ht:(⟨s,((0+v:Nat):Int),(q0u (q1k P) s).getD v ev0⟩:To)∈q8K (q1k P) s:=numT_mem.2 ⟨v,hv,rfl⟩;obtain ⟨y,hy,k,hk,hs,he⟩:=h.mem_str.1 ht;injection he with _ he _;refine ⟨q2Z sd y.1 y.2 k,(h.ents _).2 (mem_entsP.2 ⟨y,hy,k,hk,rfl⟩),?_,?_⟩
 ·unfold q2Z;simp only;rw[hs]
 ·unfold q2Z;simp only;omega
theorem StI.last (h:StI sd B P) (hB:okM B) {s:List UInt8} {u r:Int} (hu:((q0u (q1k P) s).length:Int)-1≤u) (hl:z2h B (q2P sd s) u r):
  ((q0u (q1k P) s).length:Int)-1≤r∧ -1≤r∧(r<0→q0u (q1k P) s=[])∧(0≤r→(q8K (q1k P) s).filter (fun t=>decide (r≤t.v∧t.v≤r))=[]→((q0u (q1k P) s).length:Int)-1≤r-1)∧
   ((q8K (q1k P) s).filter (fun t=>decide (r≤t.v∧t.v≤r))≠[]→((q0u (q1k P) s).length:Int)-1=r):=by
 have h0: -1≤r:=by
  rcases hl.2 with e|⟨y,hy,_,_,e⟩
  ·omega
  ·have:=okEn_iff.1 (hB.ok y hy);omega
 have h1:((q0u (q1k P) s).length:Int)-1≤r:=by
  rcases Nat.eq_zero_or_pos (q0u (q1k P) s).length with e|e
  ·omega
  ·obtain ⟨x,hx,e1,e2⟩:=h.has (s:=s) (v:=(q0u (q1k P) s).length-1) (by omega)
   have:=hl.1 x hx e1 (by omega);omega
 refine ⟨h1,h0,fun hr=>?_,fun hr he=>?_,fun hne=>?_⟩
 ·exact List.length_eq_zero_iff.1 (by omega)
 ·rcases Int.lt_or_le (((q0u (q1k P) s).length:Int)-1) r with hlt|hge
  ·omega
  ·exfalso
   have ht:(⟨s,((0+r.toNat:Nat):Int),(q0u (q1k P) s).getD r.toNat ev0⟩:To)∈q8K (q1k P) s:=numT_mem.2 ⟨r.toNat,by omega,rfl⟩;have:=(List.mem_filter (p:=fun t:To=>decide (r≤t.v∧t.v≤r))).2 ⟨ht,by simp;omega⟩;rw[he] at this
   cases this
 ·obtain ⟨t,ht⟩:=List.exists_mem_of_ne_nil _ hne
  obtain ⟨h2,h3⟩:=List.mem_filter.1 ht;obtain ⟨k,hk,rfl⟩:=numT_mem.1 h2;simp only[decide_eq_true_eq] at h3;omega
end
theorem z4F (sd:Int) (P:Pbs) (p:Nat) (b:Bt):q4N sd (P++[(p,b)])=q4N sd P++q0a sd p b b.ev.length:=by
 unfold q4N;rw[List.map_append,List.flatten_append];simp
theorem q5S (P:Pbs) (p:Nat) (b:Bt):q1k (P++[(p,b)])=q1k P++[b]:=by unfold q1k;rw[List.map_append];rfl
theorem mem_addEs {x:En}: ∀{es L:List En},x∈q1Q es L↔x∈es∨x∈L
 |[],L=>by unfold q1Q;simp
 | e ::es,L=>by
  have h:=mem_addEs (x:=x) (es:=es) (L:=q3V e L);unfold q1Q at*;rw[List.foldl_cons,h,mem_addE,List.mem_cons]
  constructor
  ·rintro (h|h|h)
   ·exact .inl (.inr h)
   ·exact .inl (.inl h)
   ·exact .inr h
  ·rintro ((h|h)|h)
   ·exact .inr (.inl h)
   ·exact .inl h
   ·exact .inr (.inr h)
theorem StI.snoc {sd:Int} {B:List En} {P:Pbs} (h:StI sd B P) {p:Nat} {b:Bt} (hb:z4L b) (hf:b.fi=(q0u (q1k P) b.st).length) (hp: ∀y∈P,y.1<p):StI sd (q1Q (q0a sd p b b.ev.length) B) (P++[(p,b)]):=by
 refine ⟨by rw[q5S];exact okBs_snoc.2 ⟨h.ok,hb,hf⟩,?_,fun x=>?_⟩
 ·rw[List.pairwise_append]
  exact ⟨h.pos,List.pairwise_singleton _ _,fun a ha c hc=>by obtain rfl:=List.mem_singleton.1 hc;exact hp a ha⟩
 ·rw[mem_addEs,z4F,List.mem_append,h.ents]
  exact Or.comm
theorem q5s (sd:Int) (P:Pbs):(q4N sd P).length=(tos (q1k P)).length:=by
 unfold q4N tos q1k;rw[List.length_flatten,List.length_flatten,List.map_map,List.map_map,List.map_map]
 congr 1
 refine List.map_congr_left fun x _=>?_
 simp only[Function.comp];rw[q3l,q3e]
theorem StI.len {sd:Int} {B:List En} {P:Pbs} (h:StI sd B P) (hB:q0q B):B.length≤(tos (q1k P)).length:=by
 rw[←q5s sd];have hn:B.Nodup:=hB.imp fun {a b} hab e=>by rw[e,q0Z] at hab;cases hab
 exact nodup_leB hn fun x hx=>(h.ents x).1 hx
where nodup_leB {α:Type} [DecidableEq α]: ∀{l m:List α},l.Nodup→(∀x∈l,x∈m)→l.length≤m.length
 |[],_,_,_=>Nat.zero_le _
 | x::l,m,h,hm=>by
  obtain ⟨h1,h2⟩:=List.nodup_cons.1 h;have hx:=hm x (.head _);have h3:=nodup_leB (m:=m.erase x) h2 fun y hy=>(List.mem_erase_of_ne (fun e:y=x=>h1 (by rw[←e];exact hy))).2 (hm y (.tail _ hy))
  rw[List.length_erase_of_mem hx] at h3;have:=List.length_pos_of_mem hx;rw[List.length_cons];omega
def q7q (L:List To) (from_ count:Int):List To:=(L.drop from_.toNat).take count.toNat
def z0T (L:List To) (from_ count:Int):List To:=(L.drop (from_-count+1).toNat).take ((from_+1).toNat-(from_-count+1).toNat)
theorem z9F (bs:List Bt) (s:List UInt8) {f c:Int} (hf:0≤f) (hc:1≤c) (hn:(q0u bs s).length≤1073741824):(q8K bs s).filter (fun t=>decide (max f 0≤t.v∧t.v≤min (f+min c 1073741824-1) 1073741824))=q7q (q8K bs s) f c:=by
 unfold q8K q7q;rw[q5e,show (max f 0-((0:Nat):Int)).toNat=f.toNat by omega];rcases Int.lt_or_le (f+c-1) 1073741824 with h|h
 ·rw[show (min (f+min c 1073741824-1) 1073741824+1-((0:Nat):Int)).toNat-f.toNat=c.toNat by omega]
 ·rw[List.take_of_length_le,List.take_of_length_le]
  ·rw[List.length_drop,q1r];omega
  ·rw[List.length_drop,q1r];omega
theorem z4S (bs:List Bt) (s:List UInt8) {f c:Int} (hf:0≤f) (hc:1≤c) (hn:(q0u bs s).length≤1073741824):(q8K bs s).filter (fun t=>decide (max (f-c+1) 0≤t.v∧t.v≤min f 1073741824))=z0T (q8K bs s) f c:=by
 unfold q8K z0T;rw[q5e,show (max (f-c+1) 0-((0:Nat):Int)).toNat=(f-c+1).toNat by omega];rcases Int.le_total f 1073741824 with h|h
 ·rw[show (min f 1073741824+1-((0:Nat):Int)).toNat=(f+1).toNat by omega]
 ·rw[List.take_of_length_le,List.take_of_length_le]
  ·rw[List.length_drop,q1r];omega
  ·rw[List.length_drop,q1r];omega
theorem z6E {L:List To} {f c:Int} (h:(L.length:Int)≤f):q7q L f c=[]:=by
 unfold q7q;rw[List.drop_eq_nil_of_le (by omega),List.take_nil]
end
section
open Go.RowKit
def q9N (φ:Fls) (C:Cks):Prop:= ∀k:Nat,k≤999999→φ (q0G 99 (k:Int))=(C[k]?).map (q0S k)
def z0n (φ:Fls) (m:Man):Prop:=(φ mapN=some m.S∧0<m.nx)∨(φ mapN=none∧m.nx=0∧m.ck=0∧m.L=[])
def y0H (nm:List UInt8):Prop:= ∀k:Nat,k≤999999→nm≠q0G 99 (k:Int)
theorem z5J : ∀{a b:List (List UInt8×List UInt8)},q3E Prod.fst a→q3E Prod.fst b→(∀z,z∈a↔z∈b)→a=b
 |[],[],_,_,_=>rfl
 |[],y::b,_,_,h=>absurd ((h y).2 (.head _)) (by simp)
 |x::a,[],_,_,h=>absurd ((h x).1 (.head _)) (by simp)
 | x ::a,y::b,ha,hb,h=>by
  obtain ⟨h1,h2⟩:=List.pairwise_cons.1 ha;obtain ⟨h3,h4⟩:=List.pairwise_cons.1 hb;have hxy:x=y:=by
   rcases List.mem_cons.1 ((h x).1 (.head _)) with e|hx
   ·exact e
   rcases List.mem_cons.1 ((h y).2 (.head _)) with e|hy
   ·exact e.symm
   have:=WideShapes.bytes_trans _ _ _ (h1 y hy) (h3 x hx);rw[WideAt.bytes_irrefl] at this;cases this
  subst hxy;rw[z5J h2 h4 fun z=>?_]
  constructor
  ·intro hz
   rcases List.mem_cons.1 ((h z).1 (.tail _ hz)) with e|hz2
   ·have:=h1 z hz;rw[e,WideAt.bytes_irrefl] at this;cases this
   ·exact hz2
  ·intro hz
   rcases List.mem_cons.1 ((h z).2 (.tail _ hz)) with e|hz2
   ·have:=h3 z hz;rw[e,WideAt.bytes_irrefl] at this;cases this
   ·exact hz2
theorem z2u {l:List (List UInt8×List UInt8)} (h:q3E Prod.fst l) (z:List UInt8×List UInt8):z∈l↔(q0H Prod.fst z.1 l).map Prod.snd=some z.2:=by
 constructor
 ·intro hz;rw[q5K h hz rfl];rfl
 ·intro hz
  cases hf:q0H Prod.fst z.1 l with
  |none=>rw[hf] at hz;cases hz
  | some y=>
   rw[hf] at hz;injection hz with hz;obtain ⟨h1,h2⟩:=q0O hf;have:y=z:=Prod.ext h2 hz
   rwa [this] at h1
theorem z7A {a b:List (List UInt8×List UInt8)} (ha:q3E Prod.fst a) (hb:q3E Prod.fst b) (h: ∀nm,(q0H Prod.fst nm a).map Prod.snd=(q0H Prod.fst nm b).map Prod.snd):a=b:=
 z5J ha hb fun z=>by rw[z2u ha,z2u hb,h]
theorem q8Y {α:Type} {r:α→α→Prop} {p:α→Bool} (hp: ∀x y,r x y→p y=true→p x=true): ∀{l:List α},l.Pairwise r→l=l.filter p++l.filter (fun y=>!p y)
 |[],_=>rfl
 | x :: l,h=>by
  obtain ⟨h1,h2⟩:=List.pairwise_cons.1 h
  cases hx:p x with
  | true=>
   rw[List.filter_cons_of_pos hx,List.filter_cons_of_neg (by simp[hx]),List.cons_append,←q8Y hp h2]
  | false=>
   have hn: ∀y∈l,p y=false:=fun y hy=>by
    cases hy2:p y with
    |false=>rfl
    |true=>rw[hp x y (h1 y hy) hy2] at hx;cases hx
   rw [List.filter_cons_of_neg (by simp[hx]),List.filter_cons_of_pos (by simp[hx]),List.filter_eq_nil_iff.2 fun y hy=>by simp[hn y hy],List.nil_append,
    List.filter_eq_self.2 fun y hy=>by simp[hn y hy]]
theorem q6P {α:Type} [DecidableEq α]: ∀{l m:List α},l.Nodup→(∀x∈l,x∈m)→l.length≤m.length
 |[],_,_,_=>Nat.zero_le _
 | x::l,m,h,hm=>by
  obtain ⟨h1,h2⟩:=List.nodup_cons.1 h;have hx:=hm x (.head _);have h3:=q6P (m:=m.erase x) h2 fun y hy=>(List.mem_erase_of_ne (fun e:y=x=>h1 (by rw[←e];exact hy))).2 (hm y (.tail _ hy))
  rw[List.length_erase_of_mem hx] at h3;have:=List.length_pos_of_mem hx;rw[List.length_cons];omega
theorem q5T {k:Nat} (hk:k≤999999):bytesBefore [99] (q0G 99 (k:Int))=true∧bytesBefore (q0G 99 (k:Int)) [100]=true∧bytesBefore (q0G 99 (k:Int)) [99]=false:=by
 rw[q0X (by omega)];have hl:=q0f 6 ((k:Int)).toNat
 cases hd:q4n 6 ((k:Int)).toNat with
 |nil=>rw[hd] at hl;cases hl
 |cons a r=>exact ⟨by simp[bytesBefore],by simp[bytesBefore],by simp[bytesBefore]⟩
theorem z0f {n:Int} (hn:0≤n∧n≤999999):bytesBefore (q0G 98 n) [99]=true∧bytesBefore (q0G 116 n) [100]=false∧bytesBefore (q0G 116 n) [99]=false:=by
 rw[q0X hn,q0X hn];exact ⟨by simp[bytesBefore],by simp[bytesBefore],by simp[bytesBefore]⟩
theorem before_map :bytesBefore mapN [100]=false∧bytesBefore mapN [99]=false:=by decide
section
variable {st :IxSt} {σ σ':DM} {c s:Int} {φ:Fls} {u cnt:Nat} {B:List En} {C C':Cks} {E:Oth}
theorem z2j : ∀(C:Cks) (i:Nat),i+C.length≤999999→q3E Prod.fst (q3v i C)
 |[],_,_=>List.Pairwise.nil
 | ps::r,i,h=>by
  rw[List.length_cons] at h;refine List.pairwise_cons.2 ⟨fun y hy=>?_,z2j r (i+1) (by omega)⟩;obtain ⟨j,h1,h2,h3⟩:=q3M hy;rw[h3];exact q5v (by omega) (by omega) (by omega)
theorem z2s {C:Cks} (hC:C.length≤200) {k:Nat} (hk:k≤999999):(q0H Prod.fst (q0G 99 (k:Int)) (q3v 0 C)).map Prod.snd=(C[k]?).map (q0S k):=by
 rcases Nat.lt_or_ge k C.length with h|h
 ·rw[z0A hC (List.getElem?_eq_getElem h),List.getElem?_eq_getElem h];rfl
 ·rw[q9d hC h hk,List.getElem?_eq_none h];rfl
theorem q6Z (h:PInv st σ c s φ u cnt B) (hc:q9N φ C) (hC:okC C):
  ∃E,Lgd E σ (c-(q2G E:Int)) s C∧(∀nm,y0H nm→(q0H Prod.fst nm (E.X++E.Z)).map Prod.snd=φ nm)∧q2G E+q0l C≤u∧E.X.length+C.length+E.Z.length≤cnt:=by
 obtain ⟨l,hpl,hord,hfun,hus,hln⟩:=h.fl;have hone: ∀y∈l,φ y.1≠none:=fun y hy e=>by
  have:=hfun y.1;rw[q5K hord hy rfl,e] at this;cases this
 have p1:=q8Y (r:=fun x y:List UInt8×List UInt8=>bytesBefore x.1 y.1=true) (p:=fun y:List UInt8×List UInt8=>bytesBefore y.1 [99]) (fun x y h1 h2=>WideShapes.bytes_trans _ _ _ h1 h2) hord;have hr:=hord.filter (p:=fun y:List UInt8×List UInt8=>!bytesBefore y.1 [99]);have p2:=q8Y (r:=fun x y:List UInt8×List UInt8=>bytesBefore x.1 y.1=true) (p:=fun y:List UInt8×List UInt8=>bytesBefore y.1 [100]) (fun x y h1 h2=>WideShapes.bytes_trans _ _ _ h1 h2) hr;obtain ⟨X,hX⟩: ∃X,l.filter (fun y=>bytesBefore y.1 [99])=X:=⟨_,rfl⟩
 obtain ⟨R,hR⟩: ∃R,l.filter (fun y=>!bytesBefore y.1 [99])=R:=⟨_,rfl⟩
 obtain ⟨M,hM⟩: ∃M,R.filter (fun y=>bytesBefore y.1 [100])=M:=⟨_,rfl⟩
 obtain ⟨Z,hZ⟩: ∃Z,R.filter (fun y=>!bytesBefore y.1 [100])=Z:=⟨_,rfl⟩
 rw[hX,hR] at p1;rw[hR,hM,hZ] at p2;rw[p2] at p1;have mX: ∀y,y∈X↔y∈l∧bytesBefore y.1 [99]=true:=fun y=>by rw[←hX,List.mem_filter]
 have mR: ∀y,y∈R↔y∈l∧bytesBefore y.1 [99]=false:=fun y=>by rw[←hR,List.mem_filter];simp
 have mM: ∀y,y∈M↔y∈l∧bytesBefore y.1 [99]=false∧bytesBefore y.1 [100]=true:=fun y=>by rw[←hM,List.mem_filter,mR];simp[and_assoc]
 have mZ: ∀y,y∈Z↔y∈l∧bytesBefore y.1 [99]=false∧bytesBefore y.1 [100]=false:=fun y=>by rw[←hZ,List.mem_filter,mR];simp[and_assoc]
 have hrng: ∀n∈st.m.L.flatten,0≤n∧n≤999999:=fun n hn=>by have:=h.range hn;omega
 have hXZ: ∀y,y∈X∨y∈Z→y.1=mapN∨ ∃n∈st.m.L.flatten,y.1=q0G 116 n∨y.1=q0G 98 n:=fun y hy=>by
  have hl:y∈l:=hy.elim (fun h=>((mX y).1 h).1) fun h=>((mZ y).1 h).1
  rcases h.only y.1 (hone y hl) with e|e|⟨k,hk,e⟩
  ·exact .inl e
  ·exact .inr e
  ·exfalso
   obtain ⟨_,b2,b3⟩:=q5T hk;rcases hy with hy|hy
   ·have:=((mX y).1 hy).2;rw[e,b3] at this;cases this
   ·have:=((mZ y).1 hy).2.2;rw[e,b2] at this;cases this
 have hMk: ∀y∈M,∃k:Nat,k≤999999∧y.1=q0G 99 (k:Int):=fun y hy=>by
  obtain ⟨hl,q1,q2⟩:=(mM y).1 hy;rcases h.only y.1 (hone y hl) with e|⟨n,hn,e|e⟩|e
  ·rw[e,before_map.1] at q2;cases q2
  ·rw[e,(z0f (hrng n hn)).2.1] at q2;cases q2
  ·rw[e,(z0f (hrng n hn)).1] at q1;cases q1
  ·exact e
 have hordP:=hord;rw[p1] at hordP;obtain ⟨oX,oMZ,_⟩:=List.pairwise_append.1 hordP;obtain ⟨oM,oZ,_⟩:=List.pairwise_append.1 oMZ;have hMC:M=q3v 0 C:=z7A oM (z2j C 0 (by have:=hC.few;omega)) fun nm=>by
  by_cases hnm: ∃k:Nat,k≤999999∧nm=q0G 99 (k:Int)
  ·obtain ⟨k,hk,rfl⟩:=hnm
   rw[z2s hC.few hk,←hc k hk,←hfun];obtain ⟨_,b2,b3⟩:=q5T hk;rw[p1,q0Y fun y hy e=>?_,q1P fun y hy e=>?_]
   ·have:=((mZ y).1 hy).2.2;rw[show y.1=q0G 99 (k:Int) from e,b2] at this;cases this
   ·have:=((mX y).1 hy).2;rw[show y.1=q0G 99 (k:Int) from e,b3] at this;cases this
  ·rw [q0W fun y hy e=>hnm (by obtain ⟨k,hk,e2⟩:=hMk y hy;exact ⟨k,hk,by rw[←e2];exact e.symm⟩),q0W fun y hy e=>hnm (by
    obtain ⟨j,h1,h2,h3⟩:=q3M hy
    exact ⟨j,by have:=hC.few;omega,by rw[←h3];exact e.symm⟩)]
 rw[hMC] at p1;have hnn:=h.noNew;have huse:q2M l=q2G ⟨X,Z⟩+q0l C:=by
  rw[p1,q1J,q1J,q5B];unfold q2G;simp only;omega
 have hlen:l.length=X.length+C.length+Z.length:=by rw[p1];simp[q4w];omega
 refine ⟨⟨X,Z⟩,⟨?_,hC,⟨fun y hy k hk=>?_,fun y hy k hk=>?_,fun y hy e=>?_,fun y hy hp=>?_,fun y hy=>?_,?_⟩⟩,fun nm hnm=>?_,by omega,by simp only;omega⟩
 ·rw[show c-(q2G ⟨X,Z⟩:Int)+(q2G ⟨X,Z⟩:Int)=c by omega]
  show Pl σ c s (X++(q3v 0 C++Z));rw[←p1];exact hpl
 ·exact WideShapes.bytes_trans _ _ _ ((mX y).1 hy).2 (q5T hk).1
 ·by_cases q:y.1=[100]
  ·rw[q];exact (q5T hk).2.1
  ·rcases WideAt.bytes_total y.1 [100] q with q|q
   ·rw[((mZ y).1 hy).2.2] at q;cases q
   ·exact WideShapes.bytes_trans _ _ _ (q5T hk).2.1 q
 ·have hl:y∈l:=hy.elim (fun h=>((mX y).1 h).1) fun h=>((mZ y).1 h).1
  exact hone y hl (by rw[e];exact hnn)
 ·rcases hXZ y hy with e|⟨n,hn,e|e⟩
  ·rw[e] at hp;exact absurd hp (by decide)
  ·rw[e,q1u y0a (hrng n hn)];exact (by decide:(116:UInt8)≠99)
  ·rw[e,q1u y2D (hrng n hn)];exact (by decide:(98:UInt8)≠99)
 ·rcases hXZ y hy with e|⟨n,hn,e|e⟩
  ·rw[e];decide
  ·rw[e,q0X (hrng n hn),List.length_cons,q0f];decide
  ·rw[e,q0X (hrng n hn),List.length_cons,q0f];decide
 ·have hnd:((X++Z).map Prod.fst).Nodup:=by
   have ho:q3E Prod.fst (X++Z):=by
    rw[p1] at hord;exact hord.sublist (List.Sublist.append (List.Sublist.refl X) (List.sublist_append_right _ _))
   exact List.pairwise_map.2 (z0U ho)
  have hb:=Man.bounds h.man;have:=q6P (m:=mapN::(st.m.L.flatten.map (q0G 116)++st.m.L.flatten.map (q0G 98))) hnd fun x hx=>by
   obtain ⟨y,hy,rfl⟩:=List.mem_map.1 hx;rcases hXZ y (List.mem_append.1 hy) with e|⟨n,hn,e|e⟩
   ·rw[e];exact .head _
   ·rw[e];exact .tail _ (List.mem_append.2 (.inl (List.mem_map.2 ⟨n,hn,rfl⟩)))
   ·rw[e];exact .tail _ (List.mem_append.2 (.inr (List.mem_map.2 ⟨n,hn,rfl⟩)))
  simp only[List.length_map,List.length_append,List.length_cons] at this;simp only;omega
 ·rw [←hfun,p1]
  show (q0H Prod.fst nm (X++Z)).map Prod.snd=_;have hno: ∀y∈q3v 0 C,Prod.fst y≠nm:=fun y hy e=>by
   obtain ⟨j,h1,h2,h3⟩:=q3M hy;exact hnm j (by have:=hC.few;omega) (by rw[←h3];exact e.symm)
  unfold q0H;rw[List.find?_append,List.find?_append,List.find?_append];have h0:List.find? (fun y=>Prod.fst y==nm) (q3v 0 C)=none:=q0W hno;rw[h0];simp
theorem PInv.relog (h:PInv st σ c s φ u cnt B) (hE: ∀nm,y0H nm→(q0H Prod.fst nm (E.X++E.Z)).map Prod.snd=φ nm) (hL:Lgd E σ' (c-(q2G E:Int)) s C') (ho:okD σ') {u' cnt':Nat} (hu:q2G E+q0l C'≤u') (hn:E.X.length+C'.length+E.Z.length≤cnt'):
  ∃φ',PInv st σ' c s φ' u' cnt' B∧q9N φ' C'∧ ∀nm,y0H nm→φ' nm=φ nm:=by
 have hpl:=hL.pl;rw[show c-(q2G E:Int)+(q2G E:Int)=c by omega] at hpl;have hold: ∀nm,y0H nm→(q0H Prod.fst nm (q3D E C')).map Prod.snd=φ nm:=fun nm hnm=>by
  rw[←hE nm hnm];have hno: ∀y∈q3v 0 C',Prod.fst y≠nm:=fun y hy e=>by
   obtain ⟨j,h1,h2,h3⟩:=q3M hy;exact hnm j (by have:=hL.ok.few;omega) (by rw[←h3];exact e.symm)
  unfold q0H q3D;rw[List.find?_append,List.find?_append,List.find?_append];have h0:List.find? (fun y=>Prod.fst y==nm) (q3v 0 C')=none:=q0W hno;rw[h0];simp
 have hck: ∀k:Nat,k≤999999→(q0H Prod.fst (q0G 99 (k:Int)) (q3D E C')).map Prod.snd=(C'[k]?).map (q0S k):=fun k hk=>by
  rw[←z2s hL.ok.few hk];unfold q3D;rw[q0Y (hL.oth.neX hk),q1P (hL.oth.neZ hk)]
 have htb: ∀c':UInt8,(c'=116∨c'=98)→ ∀n:Int,0≤n∧n≤999999→y0H (q0G c' n):=fun c' hc n hn k hk e=>by
  have hl:q1s c'=true:=by rcases hc with rfl|rfl<;>decide
  have:=(z6z hl y1r hn (by omega) e).1;rcases hc with rfl|rfl<;>exact absurd this (by decide)
 have hrng: ∀n∈st.m.L.flatten,0≤n∧n≤999999:=fun n hn=>by have:=h.range hn;omega
 refine ⟨fun nm=>(q0H Prod.fst nm (q3D E C')).map Prod.snd,⟨⟨q3D E C',hpl,hpl.ord ho,fun _=>rfl,by rw[q7U];exact hu,by rw[q7S];exact hn⟩,h.man,h.full,fun n e he=>?_,fun nm hnm=>?_,h.okw,h.okB,h.mem⟩,hck,hold⟩
 ·obtain ⟨t0,t1,⟨y,t2⟩,t3,t4⟩:=h.tb n e he
  exact ⟨t0,(hold _ (htb 116 (.inl rfl) n (hrng n t0))).trans t1,⟨y,(hold _ (htb 98 (.inr rfl) n (hrng n t0))).trans t2⟩,t3,t4⟩
 ·by_cases hc: ∃k:Nat,k≤999999∧nm=q0G 99 (k:Int)
  ·exact .inr (.inr hc)
  ·exact h.only nm (by rw[←hold nm fun k hk e=>hc ⟨k,hk,e⟩];exact hnm)
end
end
section
open Go.RowKit Go.Maps
def DkX (wb W:World) (g:Nat) (σ:DM) (K:Nat→Prop):Prop:= ∃F,DkF wb W g F σ K
def q2v :DM→List Int→(Int→Option (List En))→(Int→Option (List En))×Int×DM
 |σ,[],acc=>(acc,0,σ)
 | σ,n::ns,acc=>match q5X σ n with
  |(none,e,τ)=>(acc,e,τ)
  |(some L,_,τ)=>q2v τ ns (fun x=>if x=n then some L else acc x)
def q9l (wb w:World) (g:Nat) (m:Man) (rate:Nat) (K:Nat→Prop) (σ:DM) (e:Ending) (w':World):Prop:=
 (q0d m.nx m.ck m.L=false∧e= .returned (.tuple #[.pointer none,.int .i64 2])∧DkX wb w' g σ K∧Stay K w w')∨
 (q0d m.nx m.ck m.L=true∧σ.down=true∧e= .returned (.tuple #[.pointer none,.int .i64 61])∧DkX wb w' g σ K∧Stay K w w')∨
 (q0d m.nx m.ck m.L=true∧σ.down=false∧(q2v σ m.L.flatten (fun _=>none)).2.1≠0∧e= .returned (.tuple #[.pointer none,.int .i64 (q2v σ m.L.flatten (fun _=>none)).2.1])∧DkX wb w' g (q2v σ m.L.flatten (fun _=>none)).2.2 K∧Stay K w w')∨
 (q0d m.nx m.ck m.L=true∧σ.down=false∧(q2v σ m.L.flatten (fun _=>none)).2.1=0∧ ∃gx t,e= .returned (.tuple #[.pointer (some ⟨gx,0,none⟩),.int .i64 0])∧
  IxK wb w' g gx ⟨m,rate,[],t,m.L.flatten.length⟩ (q2v σ m.L.flatten (fun _=>none)).2.2 K∧Stay K w w'∧ ∀n,(t n).map TE.L=(q2v σ m.L.flatten (fun _=>none)).1 n)
section
variable {wb w0 w W W1 w1 w2:World} {g gx gm gt B:Nat} {st st1:IxSt} {F Y Y1 K K' V T:Nat→Prop} {σ σ1:DM} {va v v1 v2 vm:Value} {vs:List Value} {ns:List Int} {acc:List (List En)} {M L:List En}
theorem IxI.putO {D:DataW Unit} {nn:Nat} (h:IxI w gx g gm gt st v vs vm D nn Y) {n:Int} {t:Nat} {may:Int→Bool}
  (hO:w2.ownsMap Tryz.prog 3 q6I gt (nn+1) (D.put (.int .i64 n) (.lit (.int .i64 t)))) (hoff:OffS (fun i=>i=gt) w w2)
  (htb:Tb w t g n L may T) (hT: ∀i,T i→¬InX gx gm gt i):
  IxI w2 gx g gm gt ⟨st.m,st.rate,st.w,(fun x=>if x=n then some ⟨t,L,may⟩ else st.t x),st.c+1⟩ v vs vm (D.put (.int .i64 n) (.lit (.int .i64 t))) (nn+1) (fun i=>Y i∨T i):=by
 have hY: ∀i,i<w.heap.size→i≠gt→w2.heap[i]? =w.heap[i]? :=fun i hi hx=>hoff.block i hi hx
 have hYl: ∀i,(Y i∨T i)→i<w.heap.size∧¬InX gx gm gt i:=fun i hi=>by
  rcases hi with hi|hi
  ·exact ⟨h.lt i hi,h.apart i hi⟩
  ·exact ⟨htb.lt i hi,hT i hi⟩
 have hYY: ∀i,(Y i∨T i)→w2.heap[i]? =w.heap[i]? :=fun i hi=>hY i (hYl i hi).1 fun e=>(hYl i hi).2 (.inr (.inr e))
 refine ⟨h.blk.same (hY _ h.blk.lt h.ne.2.1),?_,q4S h.lev fun i hi=>hYY i (.inl (h.inY i (hi.elim .inl fun e=> .inr (.inl e)))),hO,Nat.succ_le_succ h.cnt,fun x=>?_,fun x e hx=>?_,fun i hi=> .inl (h.inY i hi),fun i hi=>Nat.lt_of_lt_of_le (hYl i hi).1 hoff.size,fun i hi=>(hYl i hi).2,h.ne⟩
 ·refine h.mem.same fun i hi=>?_
  rcases hi with rfl|hi
  ·exact hY _ h.mem.blk.lt h.ne.2.2
  ·exact hYY i (.inl (h.inY i (.inr (.inr hi))))
 ·exact z6s (e:=⟨t,L,may⟩) h.look h.map.isMap x
 ·simp only at hx
  by_cases hxn:x=n
  ·rw[if_pos hxn] at hx
   injection hx with hx;subst hx;subst hxn;exact (htb.same hoff.size fun i hi=>hYY i (.inr hi)).mono (fun i hi=> .inr hi) fun i hi=>Nat.lt_of_lt_of_le (hYl i hi).1 hoff.size
  ·rw[if_neg hxn] at hx
   exact ((h.tab x e hx).same hoff.size fun i hi=>hYY i (.inl hi)).mono (fun i hi=> .inl hi) fun i hi=>Nat.lt_of_lt_of_le (hYl i hi).1 hoff.size
theorem z5X (h : DkF wb w g F σ K) {m:Man} {ao:Option Addr} {cap:Nat} (hG:Grid w ao m.L.length cap m.L) (hsum:m.L.flatten.length≤1000000000) (hwf: ∀x∈m.L.flatten,(Lit.int .i64 x).wf=true) (hs0:0≤m.sd) (hs1:m.sd<18446744073709551616) (rate:Nat):
  Calls Tryz.prog 115 #[.pointer (some ⟨g,0,none⟩),.agg #[.int .i64 m.nx,.int .i64 m.ck,.int .u64 m.sd,.slice ao m.L.length cap],.float .f64 rate] w (q9l wb w g m rate K σ):=by
 have HD:=η40 h;have hx1:=q0B w (.cells #[.int .i64 m.nx,.int .i64 m.ck,.int .u64 m.sd,.slice ao m.L.length cap] 148);have hbk:=Blk.new w 148 #[.int .i64 m.nx,.int .i64 m.ck,.int .u64 m.sd,.slice ao m.L.length cap];have HSz:=η40 (q6q (h.d.ext hx1) [] (by decide));have hc: ∃z c,q1W σ []=(z,c)∧(c==1)=false∧((c==61)=σ.down)∧(σ.down=true→c=61):=by
  unfold q1W
  cases σ.down with
  |true=>exact ⟨_,_,rfl,rfl,rfl,fun _=>rfl⟩
  | false=>
   simp only[Bool.false_eq_true,if_false]
   split
   ·exact ⟨_,_,rfl,rfl,rfl,fun h=>by cases h⟩
   ·exact ⟨_,_,rfl,rfl,rfl,fun h=>by cases h⟩
 obtain ⟨z,c,hz,hc1,hc2,hc3⟩:=hc;rw[hz] at HSz;have HV:=η40 (q9G m.nx m.ck m.sd ao m.L.length cap m.L _ (hG.ext hx1) (by omega) hwf);have HG:=η40 hG;have HX1:=η40 hx1;have HBk:=η40 hbk;obtain ⟨w1,hw1⟩: ∃w1,w.alloc (.cells #[.int .i64 m.nx,.int .i64 m.ck,.int .u64 m.sd,.slice ao m.L.length cap] 148)=w1:=⟨_,rfl⟩
 rw[hw1] at HSz HV HX1 HBk;obtain ⟨p,hp⟩: ∃p,w.heap.size=p:=⟨_,rfl⟩
 have HP:=η40 hp;rw[hp] at HBk;have b0:w1.cell? ⟨p,0,none⟩=some (.int .i64 m.nx):=HBk.out.cell 0;have b1:w1.cell? ⟨p,1,none⟩=some (.int .i64 m.ck):=HBk.out.cell 1;have b2:w1.cell? ⟨p,2,none⟩=some (.int .u64 m.sd):=HBk.out.cell 2;have b3:w1.cell? ⟨p,3,none⟩=some (.slice ao m.L.length cap):=HBk.out.cell 3;have hmm:=@run_makeMap Tryz.prog;clear h hx1 hbk hz hG
 cases hv:q0d m.nx m.ck m.L with
 | false=>
  rw[hv] at HV;have HVv:=η40 hv;clear hv;go_enter Tryz.func115,Tryz.ntmps115;go_wp2_with fail;refine HSz.out.mono ?_;rintro e w2 ⟨rfl,rfl⟩;go_wp2_with fail;refine HV.out.mono ?_;rintro e w2 ⟨rfl,hb2⟩;have HX2:=η40 (HX1.out.trans hb2);clear hb2;go_wp2_with fail;go_ret2;exact .inl ⟨HVv.out,rfl,⟨F,HD.out.grow HX2.out⟩,fun i hi=>HX2.out.block i (HD.out.k i hi).1⟩
 | true =>
  rw[hv] at HV;have HVv:=η40 hv;clear hv
  cases hdn:σ.down with
  | true=>
   rw[hdn] at hc2;obtain rfl:=hc3 hdn;have HDn:=η40 hdn;clear hdn hc3;go_enter Tryz.func115,Tryz.ntmps115;go_wp2_with fail;refine HSz.out.mono ?_;rintro e w2 ⟨rfl,rfl⟩;go_wp2_with fail;refine HV.out.mono ?_;rintro e w2 ⟨rfl,hb2⟩;have HX2:=η40 (HX1.out.trans hb2);clear hb2;go_wp2_with fail;go_ret2;exact .inr (.inl ⟨HVv.out,HDn.out,rfl,⟨F,HD.out.grow HX2.out⟩,fun i hi=>HX2.out.block i (HD.out.k i hi).1⟩)
  | false =>
   rw[hdn] at hc2;have HDn:=η40 hdn;have hman:m.ok:=⟨HVv.out,hs0,hs1⟩
   have hbd:=Man.bounds hman;clear hdn hc3;go_enter Tryz.func115,Tryz.ntmps115;go_wp2_with fail;refine HSz.out.mono ?_;rintro e w2 ⟨rfl,rfl⟩;go_wp2_with fail;refine HV.out.mono ?_;rintro e w2 ⟨rfl,hb2⟩;have HX2:=η40 (HX1.out.trans hb2);have b0:=q0A hb2 b0;have b1:=q0A hb2 b1;have b2:=q0A hb2 b2;have b3:=q0A hb2 b3;have HBk2:=η40 (HBk.out.ext hb2);clear hb2;go_wp2_with fail;refine (z2Z m.nx m.ck m.sd ao m.L.length cap m.L w2 (HG.out.ext HX2.out) (fun i=>by have:=hbd.2.2.1 i;omega) (by omega)).mono ?_;rintro e w3 ⟨v3,vs3,rfl,hog3,hb3⟩;have HOg:=η40 hog3;have HX3:=η40 hb3;obtain ⟨a3,k3,rfl⟩:=hog3.own.slice;clear hog3 hb3;go_wp2_with fail;refine (y0i w3).mono ?_;rintro e w4 ⟨gm,rfl,hmem,hgm,hb4⟩;have HMm:=η40 hmem;have HX4:=η40 hb4;have b3:=q0A hb4 (q0A HX3.out b3);clear hmem hb4;obtain ⟨WX,hWX⟩: ∃WX,(w4.alloc (.map #[] 0)).alloc (.cells #[.pointer (some ⟨g,0,none⟩),.int .i64 m.nx,.int .i64 m.ck,.int .u64 m.sd,.slice a3 m.L.length k3,.float .f64 rate,.pointer (some ⟨gm,0,none⟩),.map (some w4.heap.size)] 152)=WX:=⟨_,rfl⟩
   have HX5:Hid (Ext w4 WX):=η40 (hWX▸q2I _ _ _)
   have HBI:Hid (Blk WX (w4.heap.size+1) 152 #[.pointer (some ⟨g,0,none⟩),.int .i64 m.nx,.int .i64 m.ck,.int .u64 m.sd,.slice a3 m.L.length k3,.float .f64 rate,.pointer (some ⟨gm,0,none⟩),.map (some w4.heap.size)]):=η40 (by
    have h:=Blk.new (w4.alloc (.map #[] 0)) 152 #[.pointer (some ⟨g,0,none⟩),.int .i64 m.nx,.int .i64 m.ck,.int .u64 m.sd,.slice a3 m.L.length k3,.float .f64 rate,.pointer (some ⟨gm,0,none⟩),.map (some w4.heap.size)];rw[World.size_alloc,hWX] at h
    exact h)
   have HMP:Hid (WX.ownsMap Tryz.prog 3 q6I w4.heap.size 0 (.map [])):=η40 (hWX▸(World.ownsMap_made (H:=Unit) w4 Tryz.prog 3 q6I).alloc _);have HSX:Hid (WX.heap.size=w4.heap.size+2):=η40 (by rw[←hWX,World.size_alloc,World.size_alloc]);have b3X:=q0A HX5.out b3;have HXX:=η40 (((HX2.out.trans HX3.out).trans HX4.out).trans HX5.out);have hgX:gm<w4.heap.size:=HMm.out.blk.lt
   have HIx:Hid (IxK wb WX g (w4.heap.size+1) ⟨m,rate,[],(fun _=>none),0⟩ σ K):=η40 (by
    have hD:=HD.out;have hsz2:=HX2.out.size;have hsz3:=HX3.out.size;have hsz4:=HX4.out.size;have hwb:=hD.ext.size;have hog:OGr WX w2.heap.size 36 3 (.slice a3 m.L.length k3) vs3 m.L:=(HOg.out.ext HX4.out).ext HX5.out;have hlt: ∀i,((Value.slice a3 m.L.length k3).ownBlock=some i∨ ∃q,(vs3.getD q (.slice none 0 0)).ownBlock=some i)→w2.heap.size≤i∧i<w3.heap.size:=fun i hi=>z0h HOg.out i hi
    refine ⟨F,gm,w4.heap.size,fun i=>((Value.slice a3 m.L.length k3).ownBlock=some i∨ ∃q,(vs3.getD q (.slice none 0 0)).ownBlock=some i),⟨hD.d.ext HXX.out,⟨⟨hman,okM.nil,Nat.zero_le _⟩,.slice a3 m.L.length k3,vs3,.slice none 0 0,.map [],0,⟨HBI.out,HMm.out.ext HX5.out,q8g hog (Nat.zero_le _),HMP.out,Nat.le_refl _,fun n=>rfl,fun n e he=>(by cases he),fun i hi=>?_,fun i hi=>Nat.lt_of_lt_of_le (hlt i hi).2 (by have:=HX5.out.size;omega),fun i hi hx=>?_,⟨by omega,by omega,by omega⟩⟩⟩,fun i hi=>?_⟩,hD.bF,fun i hi=>?_,fun i hi=>by have:=hlt i hi;omega,hD.ext.trans HXX.out,fun i hi=>?_⟩
    ·rcases hi with hi|hi|hi
     ·exact .inl hi
     ·exact .inr hi
     ·cases hi
    ·have h1:=hlt i hi
     rcases hx with rfl|rfl|rfl<;>omega
    ·have h1:=hD.d.Flt i hi
     exact ⟨fun hx=>by rcases hx with rfl|rfl|rfl<;>omega,fun hy=>by have:=hlt i hy;omega⟩
    ·rcases hi with rfl|rfl|rfl<;>omega
    ·have h1:=hD.k i hi
     have h2:=HXX.out.size
     exact ⟨by omega,h1.2,fun hx=>by rcases hx with rfl|rfl|rfl<;>omega,fun hy=>by have:=hlt i hy;omega⟩)
   have HAl:=η40 (z3k ao m.L.length cap m.L WX (HG.out.ext HXX.out) (by omega));have hSt: ∀i,K i→i<w.heap.size:=fun i hi=>(HD.out.k i hi).1
   have HStX:Hid (Stay K w WX):=η40 fun i hi=>HXX.out.block i (hSt i hi)
   clear hmm;have hmm:=@run_makeMap Tryz.prog;go_wp2_with fail;refine HAl.out.mono ?_;rintro e w5 ⟨va,rfl,hall,hb5⟩;obtain ⟨aa,ka,rfl⟩:=hall.slice;obtain ⟨ns,hns⟩: ∃ns,m.L.flatten=ns:=⟨_,rfl⟩
   have HNs:=η40 hns;rw[hns] at hall;have HL0:=η40 (LsW.start HIx.out (W:=w5) hb5 hall);rw[hns];obtain ⟨R,hR⟩: ∃R,q2v σ ns (fun _=>none)=R:=⟨_,rfl⟩
   have HR:=η40 hR
   have HFin:Hid (∀e w',((R.2.1≠0∧e= .returned (.tuple #[.pointer none,.int .i64 R.2.1])∧DkX wb w' g R.2.2 K∧Stay K WX w')∨(R.2.1=0∧ ∃gx t,e= .returned (.tuple #[.pointer (some ⟨gx,0,none⟩),.int .i64 0])∧IxK wb w' g gx ⟨m,rate,[],t,ns.length⟩ R.2.2 K∧Stay K WX w'∧ ∀n,(t n).map TE.L=R.1 n))→q9l wb w g m rate K σ e w'):=η40 (by
    intro e w' h;unfold q9l;rw[hns,hR];rcases h with ⟨q1,q2,q3,q4⟩|⟨q1,gx,t,q2,q3,q4,q5⟩
    ·exact .inr (.inr (.inl ⟨HVv.out,HDn.out,q1,q2,q3,HStX.out.trans q4⟩))
    ·exact .inr (.inr (.inr ⟨HVv.out,HDn.out,q1,gx,t,q2,q3,HStX.out.trans q4,q5⟩)))
   obtain ⟨n,hn⟩: ∃n,ns.length=n:=⟨_,rfl⟩
   have HNl:=η40 hn;have hn40:n≤40:=by rw[←hn,←hns];exact hbd.2.1
   have HBd:=η40 hbd;obtain ⟨gx,hgx⟩: ∃gx,w4.heap.size+1=gx:=⟨_,rfl⟩
   rw[hn] at HL0;rw[hgx] at HL0;rw[hn];simp only[hgx];clear hall hb5 hns hn HAl HX1 HX2 HX3 HX4 HX5 HBI HMP HSX b3X b0 b1 b2 b3 HXX HIx HMm HOg hmm hR hbd HV HSz HG HBk HBk2 HP HStX hc1 hc2 hWX hgX hgm hgx;go_wp2_with fail
   go_loopw [44] (fun i W=> ∃(k:Nat) (t:Int→Option TE) (acc:Int→Option (List En)) (τ:DM),k≤n∧i= .int .i64 (k:Int)∧LsW wb WX W g gx ⟨m,rate,[],t,k⟩ τ K (.slice aa n ka) (.slice none 0 0) [] ns [] WX.heap.size∧(∀x,(t x).map TE.L=acc x)∧q2v τ (ns.drop k) acc=R) (fun i _=>n-(intOf i).toNat)
   case atStart=>exact ⟨0,fun _=>none,fun _=>none,σ,Nat.zero_le _,rfl,HL0.out,fun x=>rfl,HR.out⟩
   case round =>
    obtain ⟨k,tt,acc,τ,hk,rfl,hls,htt,hrr⟩:=hrel;have HL:=η40 hls;have HRr:=η40 hrr;have HTt:=η40 htt;clear hls hrr htt;by_cases hlt:k<n
    ·have hd:decide ((k:Int)<(n:Int))=true:=decide_eq_true (by omega)
     have q1:IntKind.i64.wrap ((k:Int)+1)=(k:Int)+1:=by rw[IntKind.wrap_i64];omega
     have q5:(k:Int)<(n:Int):=by omega
     obtain ⟨_,_,ea,hia⟩:=q2l HL.out.all;rw[HNl.out] at ea
     cases ea;rw[HNl.out] at hia;obtain ⟨ba,oa,rfl,n0⟩:=hia.at hlt;have hkl:k<ns.length:=by rw[HNl.out];exact hlt
     have hdrop:ns.drop k=ns.getD k 0::ns.drop (k+1):=by
      rw[List.drop_eq_getElem_cons hkl,List.getD_eq_getElem?_getD,List.getElem?_eq_getElem hkl];rfl
     have hmem:ns.getD k 0∈m.L.flatten:=by rw[HNs.out];exact q3j ns k hkl
     have hrr:=HRr.out;rw[hdrop] at hrr;have hwf2:=(HBd.out.2.2.2.1 _ hmem).1;generalize ns.getD k 0=nk at*;rw[q2v] at hrr;obtain ⟨F2,gm2,gt2,Y2,h2⟩:=HL.out.i;have HOp:=η40 (z9f h2.i.d nk);have HF2:=η40 h2;obtain ⟨r,hr⟩: ∃r,q5X τ nk=r:=⟨_,rfl⟩
     rw[hr] at hrr HOp;obtain ⟨o,c,τ2⟩:=r;clear hia hdrop hmem h2
     cases o with
     | none=>
      simp only at hrr;have hc:=z8G hr;have g2:(c !=0)=true:=by simpa using hc
      have HRR:=η40 hrr;have HC:=η40 hc;clear hr hrr hc;go_wp2_with fail;refine HOp.out.mono ?_;rintro e3 w3 ⟨rfl,hd3⟩;obtain ⟨h3,hst3⟩:=HF2.out.disk hd3
      have HE:Hid (q9l wb w g m rate K σ (.returned (.tuple #[.pointer none,.int .i64 c])) w3):=η40 (HFin.out _ _ (.inl (by
       rw[←HRR.out]
       exact ⟨HC.out,rfl,⟨_,h3.i.d,h3.bF,h3.ext,fun i hi=>⟨(h3.k i (.inl hi)).1,(h3.k i (.inl hi)).2.1⟩⟩,HL.out.stay.trans fun i hi=>hst3 i (.inl hi)⟩)))
      clear hd3 h3 hst3;go_wp2_with fail;go_ret2;exact HE.out
     | some L=>
      simp only at hrr;obtain rfl:=z4A hr;have HRR:=η40 hrr;clear hr hrr;go_wp2_with fail;refine HOp.out.mono ?_;rintro e3 w7 ⟨t,may,T,w6,rfl,hd3,hx7,htb,hT⟩;obtain ⟨h3,hst3⟩:=HF2.out.disk hd3;have h7:=h3.grow hx7;have hst7:Stay (fun i=>K i∨z8Q (.slice (some ⟨ba,oa,none⟩) n ka) (.slice none 0 0) [] i) wr w7:=hst3.trans (h3.kExt hx7);obtain ⟨hok7,v7,vs7,vm7,D7,nn7,hi7⟩:=h7.i.x;have c7:=hi7.c7;have hcn:=hi7.cnt;simp only at hcn;obtain ⟨w8,hup,hO8,hg8⟩:=hi7.map.update Tryz.keyInt Tryz.underlying150 (by unfold maxLen;omega) (keyOf_int_mk Tryz.underlying3 hwf2) (z5o t);have hoff8:OffS (fun i=>i=gt2) w7 w8:=OffS.grown hg8 fun i hi=>by injection hi with hi;exact hi.symm
      have hTX: ∀i,T i→¬InX gx gm2 gt2 i:=fun i hi hx=>by have:=hT i hi;have:=h3.i.x.xlt i hx;omega
      have hix:=hi7.putO hO8 hoff8 htb hTX
      obtain ⟨h8,hst8⟩:=h7.turnV (K:=fun i=>K i∨z8Q (.slice (some ⟨ba,oa,none⟩) n ka) (.slice none 0 0) [] i) (st1:=⟨m,rate,[],(fun x=>if x=nk then some ⟨t,L,may⟩ else tt x),k+1⟩) (Y1:=fun i=>Y2 i∨T i) ⟨⟨hman,okM.nil,by show k+1≤1000000;omega⟩,_,_,_,_,_,hix⟩ (hoff8.mono fun i _ hi=> .inr (.inr hi)) (fun i hi=>by
       rcases hi with hi|hi
       ·exact ⟨h7.bY i hi,fun hf=>(h7.i.ap i hf).2 hi⟩
       ·have h9:=hT i hi
        exact ⟨by have:=h3.ext.size;omega,fun hf=>by have:=h3.i.d.Flt i hf;omega⟩) (fun i hi=>⟨hi,fun hy=>by
       rcases hy with hy|hy
       ·exact (h7.k i hi).2.2.2 hy
       ·have:=hT i hy;have:=(h3.k i hi).1;omega⟩)
      have HL8:=η40 (HL.out.step ⟨_,_,_,_,h8⟩ (hst7.trans hst8) (by have:=hd3.off.size;have:=hx7.size;have:=hoff8.size;omega));have HTt2:Hid (∀x,(if x=nk then some (⟨t,L,may⟩:TE) else tt x).map TE.L=if x=nk then some L else acc x):=η40 fun x=>by
       by_cases hx:x=nk
       ·rw[if_pos hx,if_pos hx];rfl
       ·rw[if_neg hx,if_neg hx];exact HTt.out x
      have HUp:=η40 hup;clear hd3 h3 hst3 h7 hst7 hok7 hi7 hO8 hg8 hoff8 hTX hix h8 hst8 htb hT hx7 hcn;go_wp2_with fail
      go_roundw
      case rel=>exact ⟨k+1,_,_,τ2,hlt,by go_num,HL8.out,HTt2.out,HRR.out⟩
      case measure=>simp[intOf];omega
    ·obtain rfl:k=n:=by omega
     have hd:decide ((k:Int)<(k:Int))=false:=decide_eq_false (by omega);have hrr:=HRr.out;rw[List.drop_of_length_le (by rw[HNl.out];exact Nat.le_refl _),q2v] at hrr
     have HE:Hid (q9l wb w g m rate K σ (.returned (.tuple #[.pointer (some ⟨gx,0,none⟩),.int .i64 0])) wr):=η40 (HFin.out _ _ (.inr (by
      rw[←hrr]
      exact ⟨rfl,gx,tt,rfl,by rw[HNl.out];exact HL.out.i.beside fun i hi=> .inl hi,HL.out.stay,HTt.out⟩)))
     clear hrr;go_wp2_with fail;go_ret2;exact HE.out
end
end
section
open Go.RowKit
def toc (t:To):List Value:=[.string ⟨t.s.toArray⟩,.int .i64 t.v,.string ⟨t.e.ty.toArray⟩,.string ⟨t.e.da.toArray⟩,.float .f64 t.e.we]
def toV (t:To):Value:= .agg #[.string ⟨t.s.toArray⟩,.int .i64 t.v,.string ⟨t.e.ty.toArray⟩,.string ⟨t.e.da.toArray⟩,.float .f64 t.e.we]
def q4i (L:List To):List Value:=(L.map toc).flatten
theorem q4X (t:To):(toc t).length=5:=rfl
theorem q6Y (t:To) (L:List To):q4i (t::L)=toc t++q4i L:=rfl
theorem z0v (L M:List To):q4i (L++M)=q4i L++q4i M:=by unfold q4i;rw[List.map_append,List.flatten_append]
theorem z4v (L:List To) (t:To):q4i (L++[t])=q4i L++toc t:=by rw[z0v];unfold q4i;simp
theorem q6k (L:List To):(q4i L).length=L.length*5:=by
 induction L with
 |nil=>rfl
 |cons k L ih=>rw[q6Y,List.length_append,ih,List.length_cons,q4X];omega
theorem q4t : ∀(L:List To) (i j:Nat),i<L.length→j<5→(q4i L)[i*5+j]? =(toc (L.getD i to0))[j]?
 |[],i,j,h,_=>by simp at h
 | k::L,0,j,_,hj=>by
  rw[q6Y,List.getElem?_append_left (by rw[q4X];omega)];simp
 | k::L,i+1,j,h,hj=>by
  rw[q6Y,List.getElem?_append_right (by rw[q4X];omega),show (i+1)*5+j-(toc k).length=i*5+j by rw[q4X];omega,q4t L i j (by simpa using h) hj];simp
theorem z8F (L:List To): ∀u∈q4i L,u.oneCell'=true:=fun u hu=>by
 unfold q4i at hu;obtain ⟨l,hl,hf⟩:=List.mem_flatten.1 hu;obtain ⟨f,_,rfl⟩:=List.mem_map.1 hl;unfold toc at hf;simp only[List.mem_cons,List.not_mem_nil,or_false] at hf;rcases hf with rfl|rfl|rfl|rfl|rfl<;>rfl
structure Tos (w:World) (ao:Option Addr) (n cap:Nat) (L:List To):Prop where
 len:L.length=n
 fits:n≤cap
 bound:cap≤9223372036854775807
 nil:ao=none→cap=0
 rd:Rd w ao (q4i L)
theorem Tos.ext {w w':World} {ao:Option Addr} {n cap:Nat} {L:List To} (h:Tos w ao n cap L) (k:Ext w w'):Tos w' ao n cap L:=⟨h.len,h.fits,h.bound,h.nil,h.rd.ext k⟩
theorem Tos.at {w:World} {ao:Option Addr} {n cap:Nat} {L:List To} (h:Tos w ao n cap L) {i:Nat} (hi:i<n):
  ∃b off,ao=some ⟨b,off,none⟩∧w.cell? ⟨b,off+i*5,none⟩=some (.string ⟨(L.getD i to0).s.toArray⟩)∧w.cell? ⟨b,off+i*5+1,none⟩=some (.int .i64 (L.getD i to0).v)∧w.cell? ⟨b,off+i*5+2,none⟩=some (.string ⟨(L.getD i to0).e.ty.toArray⟩)∧w.cell? ⟨b,off+i*5+3,none⟩=some (.string ⟨(L.getD i to0).e.da.toArray⟩)∧w.cell? ⟨b,off+i*5+4,none⟩=some (.float .f64 (L.getD i to0).e.we):=by
 have hl:=h.len;have k0:=q4t L i 0 (by omega) (by decide);have k1:=q4t L i 1 (by omega) (by decide);have k2:=q4t L i 2 (by omega) (by decide);have k3:=q4t L i 3 (by omega) (by decide);have k4:=q4t L i 4 (by omega) (by decide);obtain ⟨b,off,rfl,h0⟩:=h.rd _ _ k0;obtain ⟨_,_,e1,h1⟩:=h.rd _ _ k1
 cases e1;obtain ⟨_,_,e2,h2⟩:=h.rd _ _ k2
 cases e2;obtain ⟨_,_,e3,h3⟩:=h.rd _ _ k3
 cases e3;obtain ⟨_,_,e4,h4⟩:=h.rd _ _ k4
 cases e4;exact ⟨b,off,rfl,h0,h1,h2,h3,h4⟩
theorem Tos.of_own {w:World} {B:Nat} {e:TypeId} {v:Value} {L:List To} (h:Own w B e 5 v L.length (q4i L)): ∃ao cap,v= .slice ao L.length cap∧Tos w ao L.length cap L:=by
 obtain ⟨ao,cap,rfl,h1,h2,h3,h4⟩:=h.rd;exact ⟨ao,cap,rfl,rfl,h1,h2,h3,h4⟩
theorem Tryz.infoTo :(Tryz.prog.info? 87).map (fun i=>(i.zero,i.size,i.bytes))=some (some (.agg #[.string ⟨#[]⟩,.int .i64 0,.string ⟨#[]⟩,.string ⟨#[]⟩,.float .f64 0]),5,64):=by kernel_rfl
end
end Go.Proofs.YthdekbmdkpcooaaGreatDoor
