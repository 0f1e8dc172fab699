/- Walks. -/
import Derived.Test.YteabhdclmodefaaGreatDoorG28CT
import Derived.Test.YteabhdclmodefaaGreatDoorG30CT
import Derived.WideKeyEntry
import Derived.Test.YteabhdclmodefaaGreatDoorG26CT
set_option linter.unusedVariables false
set_option linter.unusedSimpArgs false
set_option maxRecDepth 100000
set_option maxHeartbeats 12800000
namespace Go.Proofs.YteabhdclmodefaaGreatDoor
variable {m:Man}{τ:DM}{n en lv:Int}{e:TE}{f:List UInt8}{P:Program}{k nn u' cnt' p:Nat}{L2:List (List Int)}{bs:List Bt}
section
open Go.RowKit Go.Maps
def Man.S(m:Man):List UInt8:=(q2q m.nx m.ck m.sd m.L).1
def Man.E(m:Man):Int:=(q2q m.nx m.ck m.sd m.L).2
def q2T(σ:DM)(m:Man)(n:Int)(l:List En)(f:List UInt8):Int×Option (List En)×DM:=
 if (q0m σ n l f).1≠0 then((q0m σ n l f).1,none,(q2l (q0m σ n l f).2 n).2)
 else if (q2P (q0m σ n l f).2 m.S m.E).1≠0 then((q2P (q0m σ n l f).2 m.S m.E).1,none,(q2l (q2P (q0m σ n l f).2 m.S m.E).2 n).2)
 else match q5J (q2P (q0m σ n l f).2 m.S m.E).2 n with
 |(none,e,τ)=>(e,none,τ)
 |(some L,_,τ)=>(0,some L,τ)
theorem Man.E_ok(h:m.E=0):q0c m.nx m.ck m.L=true:=by
 cases hv:q0c m.nx m.ck m.L with
 |true=>rfl
 |false=>unfold Man.E q2q at h;rw[hv] at h;cases h
theorem Man.E_valid(h:q0c m.nx m.ck m.L=true):m.E=0:=by unfold Man.E q2q;rw[h];rfl
theorem Man.S_le(m:Man):m.S.length<=300:=by
 cases hv:q0c m.nx m.ck m.L with
 |true=>unfold Man.S q2q;rw[hv];exact y4A m.sd hv
 |false=>unfold Man.S q2q;rw[hv];simp
theorem y3N{σ:DM}{S:List UInt8}{E:Int}(h:q2P σ S E=(0,τ)):E=0:=by
 unfold q2P at h
 split at h
 ·injection h
 ·next h1=>exact Decidable.not_not.1 h1
theorem z6O{c:Int}(h:c≠0):q2A c≠0:=by
 rcases z6P c with e|e<;>rw[e]
 ·exact h
 ·decide
theorem z1X{σ:DM}{e:Int}(h:q5J σ n=(none,e,τ)):e≠0:=by
 unfold q5J at h
 split at h
 ·next h1=>injection h with _ h2;injection h2 with h2 _;rw[<-h2];exact z6O h1
 ·split at h
  ·injection h with _ h2;injection h2 with h2 _;rw[<-h2];decide
  ·split at h
   ·injection h with _ h2;injection h2 with h2 _;rw[<-h2];decide
   ·injection h with h1 _;cases h1
theorem z0X{σ:DM}{e:Int}{L:List En}(h:q5J σ n=(some L,e,τ)):e=0:=by
 unfold q5J at h
 split at h
 ·injection h with h1 _;cases h1
 ·split at h
  ·injection h with h1 _;cases h1
  ·split at h
   ·injection h with h1 _;cases h1
   ·injection h with _ h2;injection h2 with h2 _;exact h2.symm
theorem z0n{σ:DM}{c:Int}{l:List En}(h:q2T σ m n l f=(c,none,τ)):c≠0:=by
 unfold q2T at h
 split at h
 ·next h1=>injection h with h2 _;rw[<-h2];exact h1
 ·split at h
  ·next h1=>injection h with h2 _;rw[<-h2];exact h1
  ·split at h
   ·next h1=>injection h with h2 _;rw[<-h2];exact z1X h1
   ·injection h with _ h2;injection h2 with h2 _;cases h2
theorem z0o{σ:DM}{c:Int}{l L:List En}(h:q2T σ m n l f=(c,some L,τ)):c=0:=by
 unfold q2T at h
 split at h
 ·injection h with _ h2;injection h2 with h2 _;cases h2
 ·split at h
  ·injection h with _ h2;injection h2 with h2 _;cases h2
  ·split at h
   ·injection h with _ h2;injection h2 with h2 _;cases h2
   ·injection h with h2 _;exact h2.symm
theorem z3x{H:Type}{k e t:TypeId}{R:Value->Option (DataW H×List MemPlace)}{w:World}{b:Nat}{es:Array MapEntry}{d:Nat}(K:Keyed P k)(S:P.underlying t=some (.map k e))
  {z:Value}(hz: ∀u:World,(zeroValue e).run P u= .ok z u)(y:w.heap[b]? =some (.map es d))(F:WideElems.Fit P k R es d){key:Value}{kl:Lit}(C:keyOf P k key=some kl)(val:Value):
  ∃ (v0:Value) (sn:Nat) (es1 es2:Array MapEntry) (c:Nat),(Instr.mapEntry t (.map (some b)) key).run P w= .ok (.tuple #[v0,goInt sn]) (ChangeMaps.setBlock w b (.map es1 c))/\
   (Instr.mapUpdate t (.map (some b)) key val).run P w= .ok () (ChangeMaps.setBlock w b (.map es2 c))/\
   ∀u:World,u.heap[b]? =some (.map es1 c)->(Instr.entryStore t (.map (some b)) (goInt sn) val).run P u= .ok () (ChangeMaps.setBlock u b (.map es2 c)):=by
 obtain⟨U,J,_⟩:=F.stamped;rcases K.find w C es.toList F.keys with⟨I,a0⟩|⟨j,e0,I,G,o⟩
 ·have N:((es.toList++[(⟨key,z,d⟩:MapEntry)]).map (·.born)).Nodup:=by
   rw[List.map_append,List.nodup_append];refine⟨J,by simp,fun a X c hc Z=>?_⟩;obtain⟨x,hx,rfl⟩:=List.mem_map.1 X;have h1:=U x hx;simp at hc;omega
  have q:(es.push ⟨key,z,d⟩).findIdx? (fun x=>((x.born:Nat):Int)==((d:Nat):Int))=some es.size:=by
   rw[WideElems.findIdx_arr,Array.toList_push];exact WideElems.findIdx_born (e0:=⟨key,z,d⟩) N (by rw[List.getElem?_append_right (by simp)];simp)
  have r:(es.push ⟨key,z,d⟩).modify es.size (fun x=>{x with val:=val})=es.push ⟨key,val,d⟩:=by
   refine Array.ext (by simp) fun i h1 h2=>?_
   rw[Array.getElem_modify,Array.getElem_push,Array.getElem_push];by_cases Q:i<es.size
   ·rw[κ (by omega),dif_pos Q,dif_pos Q]
   ·have:es.size=i:=by simp at h2;omega
    rw[ξ this,dif_neg Q,dif_neg Q]
  refine⟨z,d,es.push ⟨key,z,d⟩,es.push ⟨key,val,d⟩,d+1,?_,?_,fun u O=>?_⟩
  ·simp[Instr.mapEntry,run_underlying S,MapKept.run_getObj_map y,K.check w false C,I,hz,MapKept.run_setObj_map _ y,Result.andThen,ChangeMaps.setBlock]
  ·simp[Instr.mapUpdate,run_underlying S,MapKept.run_getObj_map y,K.check w false C,I,MapKept.run_setObj_map _ y,Result.andThen,ChangeMaps.setBlock]
  ·simp[Instr.entryStore,MapKept.run_getObj_map O,asInt,asIntOf,goInt,q,r,MapKept.run_setObj_map _ O,Result.andThen,ChangeMaps.setBlock]
 ·have E:es[j]? =some e0:=by simpa using G
  have D:es.modify j (fun x=>{x with key:=key})=es:=by
   refine Array.ext (by simp) fun i h1 h2=>?_
   rw[Array.getElem_modify]
   split
   ·next hji=>
    subst hji;have:es[j]=e0:=by rw[Array.getElem?_eq_getElem h2] at E;injection E
    rw[this,<-o]
   ·rfl
  have q:es.findIdx? (fun x=>((x.born:Nat):Int)==((e0.born:Nat):Int))=some j:=by
   rw[WideElems.findIdx_arr];exact WideElems.findIdx_born J G
  have r:es.modify j (fun x=>{x with val:=val})=es.modify j (fun x=>{x with key:=key,val:=val}):=by
   refine Array.ext (by simp) fun i h1 h2=>?_
   rw[Array.getElem_modify,Array.getElem_modify]
   split
   ·next hji=>
    subst hji;have h3:j<es.size:=by simpa using h2
    have:es[j]=e0:=by rw[Array.getElem?_eq_getElem h3] at E;injection E
    rw[this,<-o]
   ·rfl
  refine⟨e0.val,e0.born,es,es.modify j (fun x=>{x with key:=key,val:=val}),d,?_,?_,fun u O=>?_⟩
  ·simp[Instr.mapEntry,run_underlying S,MapKept.run_getObj_map y,K.check w false C,I,E,o,K.stays w C,D,MapKept.run_setObj_map _ y,Result.andThen,ChangeMaps.setBlock]
  ·simp[Instr.mapUpdate,run_underlying S,MapKept.run_getObj_map y,K.check w false C,I,E,o,K.stays w C,MapKept.run_setObj_map _ y,Result.andThen,ChangeMaps.setBlock]
  ·simp[Instr.entryStore,MapKept.run_getObj_map O,asInt,asIntOf,goInt,q,r,MapKept.run_setObj_map _ O,Result.andThen,ChangeMaps.setBlock]
theorem z9D{w:World}{gt:Nat}{D:DataW Unit}(h:w.ownsMap Tryz.prog 3 q5i gt nn D)(q:nn<maxLen)(I:(Lit.int .i64 n).wf=true)(b:Nat):
  ∃ (G:Value) (y:Nat) (W1 W2:World),(Instr.mapEntry 193 (.map (some gt)) (.int .i64 n)).run Tryz.prog w= .ok (.tuple #[G,.int .i64 (y:Int)]) W1/\
   (Instr.entryStore 193 (.map (some gt)) (.int .i64 (y:Int)) (.pointer (some ⟨b,0,none⟩))).run Tryz.prog W1= .ok () W2/\
   W2.ownsMap Tryz.prog 3 q5i gt (nn+1) (D.put (.int .i64 n) (.lit (.int .i64 b)))/\OffS (fun i=>i=gt) w W2:=by
 have N:=h;obtain⟨es,C,o,F,S,O⟩:=h;obtain⟨G,y,E,J,c,h1,h2,h3⟩:=z3x (w:=w) Tryz.keyInt Tryz.underlying193 y4w o F (keyOf_int_mk Tryz.underlying3 I) (.pointer (some ⟨b,0,none⟩));obtain⟨w',r,j,Q⟩:=N.update Tryz.keyInt Tryz.underlying193 q (keyOf_int_mk Tryz.underlying3 I) (z1b b);rw[h2] at r;injection r with _ r;subst r;have d:=ChangeMaps.heap_setBlock_same o (.map E c);refine⟨G,y,_,_,h1,h3 _ d,q1g j ?_,⟨rfl,rfl,rfl,by simp[ChangeMaps.setBlock],fun i R q=>?_⟩⟩
 ·rw[ChangeMaps.heap_setBlock_same o,ChangeMaps.heap_setBlock_same d]
 ·rw[ChangeMaps.heap_setBlock_other d _ q,ChangeMaps.heap_setBlock_other o _ q]
end
section
open Go.RowKit
abbrev Fls :=List UInt8->Option (List UInt8)
def q6t(φ:Fls)(nm t:List UInt8):Fls:=fun x=>if x=nm then some t else φ x
def q8g(φ:Fls)(nm:List UInt8):Fls:=fun x=>if x=nm then none else φ x
def Fl(σ:DM)(c s:Int)(φ:Fls)(u cnt:Nat):Prop:= ∃l,Pl σ c s l/\q3X Prod.fst l/\(∀nm,(q0H Prod.fst nm l).map Prod.snd=φ nm)/\q1u l<=u/\l.length<=cnt
section
variable {σ :DM}{c s:Int}{l:List (List UInt8×List UInt8)}{nm t a b:List UInt8}{x:List UInt8×List UInt8}{φ:Fls}{u cnt:Nat}
theorem Pl.delete(h:Pl σ c s l)(d:q0H Prod.fst nm l=some x): ∃σ',q0V σ nm=(0,σ')/\Pl σ' c s (delN Prod.fst nm l):=by
 obtain⟨f,h1,rfl⟩:=h.find_some d;refine⟨{q1p σ with L:=delN FM.nm nm σ.L},?_,h.up,h.fine,?_,h.cap,h.st⟩
 ·unfold q0V
  rw[κ (by rw[h.up];decide),h1,κ (by simp),κ (by rw[h.no];decide)]
 ·rw[<-h.files]
  exact q6X (k:=FM.nm) (k':=Prod.fst) q6g nm σ.L
theorem Pl.deleteN(h:Pl σ c s l)(d:q0H Prod.fst nm l=none):q0V σ nm=(4,σ):=by
 unfold q0V;rw[κ (by rw[h.up];decide),h.find_none d,ξ (by simp)]
theorem Pl.rename(h:Pl σ c s l)(j:q0H Prod.fst a l=some x)(i:q2j b=true)(d:a≠b): ∃σ',q1n σ a b=(0,σ')/\Pl σ' c s (q2G Prod.fst (b,x.2) (delN Prod.fst a (delN Prod.fst b l))):=by
 obtain⟨f,h1,rfl⟩:=h.find_some j;refine⟨{q1p σ with L:=z6x a b f σ.L},?_,h.up,h.fine,?_,h.cap,h.st⟩
 ·unfold q1n
  rw[κ (by rw[h.up];decide),h1];simp only;rw[κ (by rw[i];decide),κ (by rw[h.no];decide),κ d]
 ·rw[<-h.files]
  show(z6x a b f σ.L).map fbF=_;unfold z6x;rw[q6l (k:=FM.nm) (k':=Prod.fst) q6g,q6X (k:=FM.nm) (k':=Prod.fst) q6g,q6X (k:=FM.nm) (k':=Prod.fst) q6g]
  rfl
theorem z1H(nm:List UInt8)(l:List (List UInt8×List UInt8)):q0H Prod.fst nm (delN Prod.fst nm l)=none:=q0f fun y d=>(mem_delN.1 d).2
theorem q8s{nm d:List UInt8}(l:List (List UInt8×List UInt8))(i:nm≠d):q0H Prod.fst nm (delN Prod.fst d l)=q0H Prod.fst nm l:=by
 unfold q0H delN;rw[List.find?_filter]
 congr 1
 funext y
 by_cases j:y.1=nm
 ·have h1:(y.1==nm)=true:=by simpa using j
  have h2:(y.1==d)=false:=by rw[j];simpa using i
  rw[h1,h2];rfl
 ·have h1:(y.1==nm)=false:=by simpa using j
  rw[h1];simp
theorem z3U(nm:List UInt8)(l:List (List UInt8×List UInt8)):q1u (delN Prod.fst nm l)<=q1u l:=by
 unfold q1u q5r delN
 induction l with
 |nil=>exact ι _
 | cons y r ih=>
  rw[List.filter_cons]
  split
  ·simp only[List.map_cons,List.sum_cons];omega
  ·simp only[List.map_cons,List.sum_cons];omega
theorem z7u(nm:List UInt8)(l:List (List UInt8×List UInt8)):(delN Prod.fst nm l).length<=l.length:=List.length_filter_le _ _
theorem Fl.find(d: ∀nm,(q0H Prod.fst nm l).map Prod.snd=φ nm)(h:φ nm=some t):q0H Prod.fst nm l=some (nm,t):=by
 have h1:=d nm;rw[h] at h1
 cases hf:q0H Prod.fst nm l with
 |none=>rw[hf] at h1;cases h1
 | some y=>
  rw[hf] at h1;have h2:=(q0K hf).2;injection h1 with h1;rw[<-h1,<-h2]
theorem Fl.noFind(d: ∀nm,(q0H Prod.fst nm l).map Prod.snd=φ nm)(h:φ nm=none):q0H Prod.fst nm l=none:=by
 have h1:=d nm;rw[h] at h1
 cases hf:q0H Prod.fst nm l with
 |none=>rfl
 |some y=>rw[hf] at h1;cases h1
theorem Fl.put(i: ∀nm,(q0H Prod.fst nm l).map Prod.snd=φ nm)(h:φ nm=none)(t:List UInt8): ∀x,(q0H Prod.fst x (q2G Prod.fst (nm,t) l)).map Prod.snd=q6t φ nm t x:=fun x=>by
 unfold q6t;by_cases d:x=nm
 ·subst d
  rw[ξ rfl,q6h (k:=Prod.fst) (x:=(x,t)) (q0k (Fl.noFind i h))]
  rfl
 ·rw[κ d,q3n (k:=Prod.fst) (x:=(nm,t)) (fun e=>d e.symm)]
  exact i x
theorem Fl.cut(i: ∀nm,(q0H Prod.fst nm l).map Prod.snd=φ nm)(nm:List UInt8): ∀x,(q0H Prod.fst x (delN Prod.fst nm l)).map Prod.snd=q8g φ nm x:=fun x=>by
 unfold q8g;by_cases d:x=nm
 ·subst d;rw[ξ rfl,z1H];rfl
 ·rw[κ d,q8s l d];exact i x
theorem Fl.up(h:Fl σ c s φ u cnt):σ.down=false:=by obtain⟨l,h1,_⟩:=h;exact h1.up
theorem Fl.mono(h:Fl σ c s φ u cnt)(h1:u<=u')(h2:cnt<=cnt'):Fl σ c s φ u' cnt':=by
 obtain⟨l,a1,d,i,j,o⟩:=h;exact⟨l,a1,d,i,by omega,by omega⟩
theorem Fl.tell(h:Fl σ c s φ u cnt):Fl (q2r σ) c s φ u cnt:=by
 obtain⟨l,a1,d,i,j,o⟩:=h;exact⟨l,a1.tell,d,i,j,o⟩
theorem Fl.tells : ∀(k:Nat) {σ:DM},Fl σ c s φ u cnt->Fl (tellN k σ) c s φ u cnt
 |0,_,h=>h
 |k+1,σ,h=>by rw[q2J];exact Fl.tells k h.tell
theorem Fl.del(h:Fl σ c s φ u cnt)(q:φ nm=some t): ∃σ',q0V σ nm=(0,σ')/\Fl σ' c s (q8g φ nm) u cnt:=by
 obtain⟨l,a1,i,d,j,o⟩:=h;obtain⟨σ',e,p⟩:=a1.delete (Fl.find d q);exact⟨σ',e,_,p,q2e i,Fl.cut d nm,Ω (z3U nm l) j,Ω (z7u nm l) o⟩
theorem Fl.write(h:Fl σ c s φ u cnt)(i:0<=n/\n<=999999){L:List En}(o:q2n L=true)(h1:φ (q0C 116 n)=none)(h2:φ (q0C 98 n)=none)(hm:cnt<398)
  (y:6000<=c-(u:Int)-((q2d L).length:Int)-(f.length:Int)): ∃σ',q0m σ n L f=(0,σ')/\Fl σ' c s (q6t (q6t φ (q0C 98 n) f) (q0C 116 n) (q2d L)) (u+f.length+(q2d L).length) (cnt+2):=by
 obtain⟨l,a1,j,d,q,r⟩:=h;obtain⟨σ',e,p⟩:=a1.write i o (f:=f) (Fl.noFind d h1) (Fl.noFind d h2) (by omega) (by omega);have h3:q6t φ (q0C 98 n) f (q0C 116 n)=none:=by unfold q6t;rw[κ (q3r n n i i)];exact h1
 have b3:=Fl.put d h2 f;refine⟨σ',e,_,p,q4E (q4E j (q0k (Fl.noFind d h2))) (q0k (Fl.noFind b3 h3)),Fl.put b3 h3 _,by rw[q5R,q5R];simp only;omega,by rw[q3A,q3A];omega⟩
theorem Fl.swap(h:Fl σ c s φ u cnt){S:List UInt8}(h1:φ q2t=none)(hm:cnt<400)(hr:6000<=c-(u:Int)-(S.length:Int)): ∃σ',q2P σ S 0=(0,σ')/\Fl σ' c s (q6t φ mapN S) (u+S.length) (cnt+1):=by
 obtain⟨l,a1,J,D,N,a5⟩:=h;have j:=Fl.noFind D h1;have X:q8y σ q2t=(0,σ):=by unfold q8y;rw[a1.deleteN j];simp
 obtain⟨σ1,O,Z⟩:=a1.create j (by decide) (by omega);have r:=q6h (k:=Prod.fst) (x:=(q2t,([]:List UInt8))) (q0k j);obtain⟨a0,Q,I⟩:=Z.append (t:=S) r (by rw[q5R];simp only[List.length_nil];omega);rw[z1r (q0k j)] at I;have d:=q6h (k:=Prod.fst) (x:=(q2t,S)) (q0k j);obtain⟨b0,R,p3⟩:=I.sync d;obtain⟨C,U,p4⟩:=p3.rename (b:=mapN) d (by decide) new_ne_map;have y:q3X Prod.fst (q2G Prod.fst (q2t,S) l):=q4E J (q0k j);have b3:=Fl.put D h1 S;have b4:=Fl.cut (Fl.cut b3 mapN) q2t;have q:q8g (q8g (q6t φ q2t S) mapN) q2t mapN=none:=by unfold q8g;rw[κ new_ne_map.symm,ξ rfl]
 refine⟨C,?_,_,p4,q4E (q2e (q2e y)) (q0k (Fl.noFind b4 q)),fun x=>?_,?_,?_⟩
 ·unfold q2P
  rw[κ (fun h=>h rfl),κ (by rw[a1.up];decide),X];unfold q3z;simp only[if_true];unfold y2h;rw[a1.free,κ (by omega),O];unfold q3z;simp only[if_true];rw[Q];simp only[if_true];rw[R];simp only[if_true];rw[U]
 ·rw [Fl.put b4 q S x]
  unfold q6t q8g;by_cases G:x=mapN
  ·simp[G]
  ·by_cases d:x=q2t
   ·simp[d,h1,new_ne_map]
   ·simp[G,d]
 ·have i:q0H Prod.fst q2t (delN Prod.fst mapN (q2G Prod.fst (q2t,S) l))=some (q2t,S):=by rw[q8s _ new_ne_map];exact d
  have E:=q8P (fun x:List UInt8×List UInt8=>x.2.length) (q2e y) i;have o:=z3U mapN (q2G Prod.fst (q2t,S) l);rw[q5R] at o⊢;unfold q1u at o N⊢;simp only at E o⊢;omega
 ·have i:q0H Prod.fst q2t (delN Prod.fst mapN (q2G Prod.fst (q2t,S) l))=some (q2t,S):=by rw[q8s _ new_ne_map];exact d
  have E:=q8h (q2e y) i;have o:=z7u mapN (q2G Prod.fst (q2t,S) l);rw[q3A] at o⊢;show(delN Prod.fst q2t (delN Prod.fst mapN (q2G Prod.fst (q2t,S) l))).length+1<=cnt+1;omega
theorem Fl.wl(h:Fl σ c s φ u cnt){L:List En}(i:φ (q0C 116 n)=some (q2d L)):Wl σ n L:=by
 obtain⟨l,a1,j,d,o,q⟩:=h;exact a1.wl (Fl.find d i)
theorem Fl.drop(h:Fl σ c s φ u cnt)(i:0<=n/\n<=999999){x y:List UInt8}(h1:φ (q0C 116 n)=some x)(h2:φ (q0C 98 n)=some y): ∃σ',q2l σ n=(0,σ')/\Fl σ' c s (q8g (q8g φ (q0C 116 n)) (q0C 98 n)) u cnt:=by
 obtain⟨σ1,j,q⟩:=h.del h1;obtain⟨d,o,r⟩:=q.del (nm:=q0C 98 n) (t:=y) (by unfold q8g;rw[κ (q3r n n i i).symm];exact h2);refine⟨d,?_,r⟩;unfold q2l;rw[j];simp only;rw[ξ (.inl rfl),o,ξ (.inl rfl)]
theorem Fl.exact(h:Fl σ c s φ u cnt): ∃d,d<=u/\Fl σ c s φ d cnt/\q4d σ=c-(d:Int):=by
 obtain⟨l,a1,i,j,o,q⟩:=h;exact⟨q1u l,o,⟨l,a1,i,j,ι _,q⟩,a1.free⟩
theorem Fl.delN(h:Fl σ c s φ u cnt)(i:φ nm=none):q0V σ nm=(4,σ):=by
 obtain⟨l,a1,j,d,o,q⟩:=h;exact a1.deleteN (Fl.noFind d i)
theorem Fl.turn(h:Fl σ c s φ u cnt)(hm:q0c m.nx m.ck m.L=true)(o:0<=n/\n<=999999){L:List En}(hs:q1C L)(R:q2n L=true)(Z: ∀e∈L,q3Q e=true)(hl:L.length<=50000)
  (h1:φ (q0C 116 n)=none)(h2:φ (q0C 98 n)=none)(h3:φ q2t=none)(X:cnt<397):
  (∃ σ',q2T σ m n L f=(0,some L,σ')/\Fl σ' c s (q6t (q6t (q6t φ (q0C 98 n) f) (q0C 116 n) (q2d L)) mapN m.S) (u+f.length+(q2d L).length+300) (cnt+3))\/
   ∃σ',q2T σ m n L f=(60,none,σ')/\Fl σ' c s φ (u+f.length+(q2d L).length+300) (cnt+3)/\c-(u:Int)-((q2d L).length:Int)-(f.length:Int)-300<6000:=by
 have hS:=m.S_le;have N:mapN≠q0C 116 n:=fun e=>by rw[q0X o] at e;exact absurd (List.cons.inj e).1 (by decide)
 have q: ∀C:UInt8,C=116\/C=98->q2t≠q0C C n:=fun C hc e=>by
  rw[q0X o] at e;rcases hc with rfl|rfl
  ·exact absurd (List.cons.inj e).1 (by decide)
  ·exact absurd (List.cons.inj e).1 (by decide)
 obtain⟨u0,q1,q2,q3⟩:=h.exact;by_cases O:6000<=c-(u0:Int)-((q2d L).length:Int)-(f.length:Int)
 ·obtain⟨σ1,D,G⟩:=q2.write o R (f:=f) h1 h2 (by omega) O
  have j:q6t (q6t φ (q0C 98 n) f) (q0C 116 n) (q2d L) q2t=none:=by unfold q6t;rw[κ (q 116 (.inl rfl)),κ (q 98 (.inr rfl))];exact h3
  obtain⟨u1,z1,z2,z3⟩:=G.exact;by_cases Q:6000<=c-(u1:Int)-(m.S.length:Int)
  ·obtain⟨i,I,r⟩:=z2.swap (S:=m.S) j (by omega) Q
   have hw:Wl i n L:=r.wl (by unfold q6t;rw[κ N.symm,ξ rfl]);obtain⟨k,_,J⟩:=z5i hw hs Z (by omega);refine .inl ⟨tellN k i,?_,(Fl.tells k r).mono (by omega) (by omega)⟩;unfold q2T;rw[D];simp only;rw[κ (fun h=>h rfl),Man.E_valid hm,I];simp only;rw[κ (fun h=>h rfl),J]
  ·have I:q2P σ1 m.S 0=(60,σ1):=by
    unfold q2P q8y;rw[κ (fun h=>h rfl),κ (by rw[G.up];decide),G.delN j,ξ rfl];unfold q3z y2h;rw[ξ rfl];simp only;rw[z3,ξ (by omega)]
   obtain⟨i,J,r⟩:=G.drop o (x:=q2d L) (y:=f) (by unfold q6t;rw[ξ rfl]) (by unfold q6t;rw[κ (q3r n n o o).symm,ξ rfl]);refine .inr ⟨i,?_,?_,by omega⟩
   ·unfold q2T
    rw[D];simp only;rw[κ (fun h=>h rfl),Man.E_valid hm,I];simp only;rw[ξ (by decide),J]
   ·have U:q8g (q8g (q6t (q6t φ (q0C 98 n) f) (q0C 116 n) (q2d L)) (q0C 116 n)) (q0C 98 n)=φ:=by
     funext x
     unfold q8g q6t;by_cases E:x=q0C 98 n
     ·rw[ξ E,E,h2]
     ·rw[κ E]
      by_cases d:x=q0C 116 n
      ·rw[ξ d,d,h1]
      ·rw[κ d,κ d,κ E]
    rw[U] at r;exact r.mono (by omega) (by omega)
 ·have D:q0m σ n L f=(60,σ):=by
   unfold q0m;rw[κ (fun e=>by rcases e with e|e;exact e o;rw[R] at e;cases e),κ (by rw[h.up];decide),q3,ξ (by omega)]
  refine .inr ⟨σ,?_,h.mono (by omega) (by omega),by omega⟩;unfold q2T;rw[D];simp only;rw[ξ (by decide)];unfold q2l;rw[h.delN h1];simp only;rw[ξ (.inr (.inl rfl)),h.delN h2];simp only;rw[ξ (.inr (.inl rfl))]
end
end
section
open Go.RowKit Go.Maps
theorem q3e{id:Nat}{Q:Exit->Act->World->Prop}{a:Act}{w:World}{l:List Oper}(n:Nat)(hm:P.follows .mixedOrders=true)(i:Region.lexTailB .any l.toArray n=true)
  (h:wpStill P l.toArray w.drew (fun d=>wpList P l.toArray Q (l.drop n) d w.drew) (l.take n) a):(Code.region id l.toArray true).wp P Q a w:=
 wp_region_still_tail n hm i h
structure ManV(w:World)(m:Man)(v:Value)(vs:List Value)(V:Nat->Prop):Prop where
 lev:OGr w 0 73 3 v vs m.L
 inV: ∀i,(v.ownBlock=some i\/ ∃q,(vs.getD q (.slice none 0 0)).ownBlock=some i)->V i
theorem ManV.same{w w':World}{v:Value}{vs:List Value}{V:Nat->Prop}(h:ManV w m v vs V)(k:Stay V w w'):ManV w' m v vs V:=⟨q2i h.lev fun i d=>k i (h.inV i d),h.inV⟩
def IxSt.put(st:IxSt)(m:Man)(n:Int)(e:TE):IxSt:=⟨m,st.rate,st.w,fun x=>if x=n then some e else st.t x,st.c+1⟩
theorem IxSt.put_full{st:IxSt}(h:st.full)(hm: ∀x∈m.L.flatten,x=n\/x∈st.m.L.flatten):(st.put m n e).full:=fun x j=>by
 unfold IxSt.put;simp only;by_cases d:x=n
 ·exact⟨e,by rw[ξ d]⟩
 ·rcases hm x j with h1|h1
  ·exact absurd h1 d
  ·obtain⟨i,h2⟩:=h x h1
   exact⟨i,by rw[κ d];exact h2⟩
def y2B(wb w:World)(g gx:Nat)(st:IxSt)(m:Man)(n:Int)(K V:Nat->Prop)(r:Int×Option (List En)×DM)(w':World):Prop:=
 match r.2.1 with
 |none=>IxK wb w' g gx st r.2.2 K/\Stay K w w'
 |some L=> ∃b may,IxK wb w' g gx (st.put m n ⟨b,L,may⟩) r.2.2 K/\Stay K w w'
section
variable {wb w w1 w2:World}{g gx gm gt:Nat}{st st1:IxSt}{F Y Y1 K K' V:Nat->Prop}{σ σ1:DM}
structure TurnW(wb w W:World)(g gx:Nat)(st:IxSt)(m:Man)(v:Value)(vs:List Value)(K V:Nat->Prop)(p:Nat)(F:Nat->Prop)(σ:DM)(gm gt:Nat)(Y:Nat->Prop):Prop where
 i:IxF wb W g F σ gx gm gt st Y (fun i=>K i\/V i\/i=p)
 man:ManV W m v vs V
 box:Blk W p 182 #[.int .i64 m.nx,.int .i64 m.ck,.int .u64 m.sd,v]
 stay:Stay K w W
theorem TurnW.grow{W W1:World}{v:Value}{vs:List Value}(h:TurnW wb w W g gx st m v vs K V p F σ gm gt Y)(k:Ext W W1):TurnW wb w W1 g gx st m v vs K V p F σ gm gt Y:=
 ⟨h.i.grow k,h.man.same fun i d=>h.i.kExt k i (.inr (.inl d)),h.box.ext k,h.stay.trans fun i d=>h.i.kExt k i (.inl d)⟩
theorem TurnW.disk{W W1:World}{v:Value}{vs:List Value}(h:TurnW wb w W g gx st m v vs K V p F σ gm gt Y)(k:DkS W g F σ1 W1):TurnW wb w W1 g gx st m v vs K V p (Gr F W W1) σ1 gm gt Y:=by
 obtain⟨h1,h2⟩:=h.i.disk k;exact⟨h1,h.man.same fun i d=>h2 i (.inr (.inl d)),h.box.same (h2 p (.inr (.inr rfl))),h.stay.trans fun i d=>h2 i (.inl d)⟩
theorem TurnW.ixi{W:World}{v:Value}{vs:List Value}(h:TurnW wb w W g gx st m v vs K V p F σ gm gt Y): ∃v vs vm D nn,IxI W gx g gm gt st v vs vm D nn Y:=h.i.i.x.2
theorem TurnW.fin{W:World}{v:Value}{vs:List Value}(h:TurnW wb w W g gx st m v vs K V p F σ gm gt Y):IxK wb W g gx st σ K/\Stay K w W:=⟨⟨_,_,_,_,h.i.beside fun i d=> .inl d⟩,h.stay⟩
theorem TurnW.cells{W:World}{v:Value}{vs:List Value}(h:TurnW wb w W g gx st m v vs K V p F σ gm gt Y):
  W.cell? ⟨gx,0,none⟩=some (.pointer (some ⟨g,0,none⟩))/\W.cell? ⟨gx,5,none⟩=some (.float .f64 st.rate)/\
  W.cell? ⟨p,0,none⟩=some (.int .i64 m.nx)/\W.cell? ⟨p,1,none⟩=some (.int .i64 m.ck)/\W.cell? ⟨p,2,none⟩=some (.int .u64 m.sd)/\W.cell? ⟨p,3,none⟩=some v:=by
 obtain⟨j,i,vm,D,nn,d⟩:=h.ixi;exact⟨d.c0,d.c5,h.box.cell 0,h.box.cell 1,h.box.cell 2,h.box.cell 3⟩
theorem IxI.putT{v v2:Value}{vs G:List Value}{vm:Value}{D:DataW Unit}(h:IxI w gx g gm gt st v vs vm D nn Y)(hm:ManV w m v2 G V){t:Nat}{L:List En}{may:Int->Bool}{T:Nat->Prop}
  (Q:w2.ownsMap Tryz.prog 3 q5i gt (nn+1) (D.put (.int .i64 n) (.lit (.int .i64 t))))
  (hF:OffS (fun i=>i=gt) ((((w.setCell ⟨gx,1,none⟩ (.int .i64 m.nx)).setCell ⟨gx,2,none⟩ (.int .i64 m.ck)).setCell ⟨gx,3,none⟩ (.int .u64 m.sd)).setCell ⟨gx,4,none⟩ v2).drew w2)
  (r:Tb w t g n L may T)(J: ∀i,V i->i<w.heap.size/\¬InX gx gm gt i)(O: ∀i,T i->¬InX gx gm gt i):
  IxI w2 gx g gm gt (st.put m n ⟨t,L,may⟩) v2 G vm (D.put (.int .i64 n) (.lit (.int .i64 t))) (nn+1) (fun i=>Y i\/V i\/T i)/\OffS (InX gx gm gt) w w2:=by
 have j:OffS (InX gx gm gt) w w2:=((((OffS.set (F:=InX gx gm gt) w (.inl rfl) 1 (.int .i64 m.nx)).trans (OffS.set _ (.inl rfl) 2 (.int .i64 m.ck))).trans (OffS.set _ (.inl rfl) 3 (.int .u64 m.sd))).trans (OffS.set _ (.inl rfl) 4 v2)).trans ((OffS.of_ext (Ext.refl _).drew).trans (hF.mono fun i _ d=> .inr (.inr d)));have I: ∀i,i<w.heap.size->¬InX gx gm gt i->w2.heap[i]? =w.heap[i]? :=fun i d o=>j.block i d o
 have N:w2.heap[gm]? =w.heap[gm]? :=by
  rw[hF.block gm (Ψ h.mem.blk.lt (by simp[World.setCell,World.drew,-World.drew_eq])) h.ne.2.2];show(((((w.setCell ⟨gx,1,none⟩ (.int .i64 m.nx)).setCell ⟨gx,2,none⟩ (.int .i64 m.ck)).setCell ⟨gx,3,none⟩ (.int .u64 m.sd)).setCell ⟨gx,4,none⟩ v2)).heap[gm]? =_;rw[Below.heap_setCell _ _ _ _ h.ne.1.symm,Below.heap_setCell _ _ _ _ h.ne.1.symm,Below.heap_setCell _ _ _ _ h.ne.1.symm,Below.heap_setCell _ _ _ _ h.ne.1.symm]
 have C:Blk w2 gx 195 #[.pointer (some ⟨g,0,none⟩),.int .i64 m.nx,.int .i64 m.ck,.int .u64 m.sd,v2,.float .f64 st.rate,.pointer (some ⟨gm,0,none⟩),.map (some gt)]:=by
  have h1:=(((h.blk.set 1 (.int .i64 m.nx)).set 2 (.int .i64 m.ck)).set 3 (.int .u64 m.sd)).set 4 v2;exact(Blk.drew h1).same (hF.block gx (Blk.drew h1).lt h.ne.2.1)
 have q: ∀i,(Y i\/V i\/T i)->i<w.heap.size/\¬InX gx gm gt i:=fun i d=>by
  rcases d with d|d|d
  ·exact⟨h.lt i d,h.apart i d⟩
  ·exact J i d
  ·exact⟨r.lt i d,O i d⟩
 refine⟨⟨C,?_,q2i hm.lev fun i d=>I i (J i (hm.inV i d)).1 (J i (hm.inV i d)).2,Q,Nat.succ_le_succ h.cnt,fun x=>?_,fun x e o=>?_,fun i d=>?_,fun i d=>Ψ (q i d).1 j.size,fun i d=>(q i d).2,h.ne⟩,j⟩
 ·refine h.mem.same fun i d=>?_
  rcases d with rfl|d
  ·exact N
  ·have E:=h.inY i (.inr (.inr d))
   exact I i (h.lt i E) (h.apart i E)
 ·exact z5a (e:=⟨t,L,may⟩) h.look h.map.isMap x
 ·unfold IxSt.put at o
  simp only at o;by_cases y:x=n
  ·rw[ξ y] at o
   injection o with o;subst o;subst y;exact(r.same j.size fun i d=>I i (r.lt i d) (O i d)).mono (fun i d=> .inr (.inr d)) fun i d=>Ψ (q i d).1 j.size
  ·rw[κ y] at o
   exact((h.tab x e o).same j.size fun i d=>I i (h.lt i d) (h.apart i d)).mono (fun i d=> .inl d) fun i d=>Ψ (q i d).1 j.size
 ·rcases d with d|d|d
  ·exact .inr (.inl (hm.inV i (.inl d)))
  ·exact .inr (.inl (hm.inV i (.inr d)))
  ·exact .inl (h.inY i (.inr (.inr d)))
theorem y2A(h:IxF wb w g F σ gx gm gt st Y (fun i=>K i\/V i)){v:Value}{vs:List Value}(hv:ManV w m v vs V)(l0: ∀i,V i->wb.heap.size<=i/\¬K i)(hn:0<=n/\n<=1000000)
  {ao:Option Addr}{cap:Nat}{l:List En}(hx:Ens w ao k cap l)(hk:k<=1000)(M0: ∀e∈l,q3Q e=true)
  (O0: ∀x∈m.L.flatten,(Lit.int .i64 x).wf=true)(P0:m.L.flatten.length<=1000)(t0:0<=m.sd)(u0:m.sd<18446744073709551616)(hc:st.c<1000000):
  Calls Tryz.prog 136 #[.pointer (some ⟨gx,0,none⟩),.agg #[.int .i64 m.nx,.int .i64 m.ck,.int .u64 m.sd,v],.int .i64 n,.slice ao k cap] w fun e w'=>
   ∃f:List UInt8,128<=f.length/\f.length<=64*(l.length/20+2)/\e= .returned (.int .i64 (q2T σ m n l f).1)/\y2B wb w g gx st m n K V (q2T σ m n l f) w':=by
 obtain⟨av,kv,rfl,n0⟩:=hv.lev.grid;have R:=q0B w (.cells #[.int .i64 m.nx,.int .i64 m.ck,.int .u64 m.sd,.slice av m.L.length kv] 182);have q0: ∀i,V i->i<w.heap.size:=fun i j=>(h.k i (.inr j)).1
 have h0:Hd (TurnW wb w (w.alloc (.cells #[.int .i64 m.nx,.int .i64 m.ck,.int .u64 m.sd,.slice av m.L.length kv] 182)) g gx st m (.slice av m.L.length kv) vs K V w.heap.size F σ gm gt Y):=η
  ⟨h.more R (fun i j=>by
   rcases j with j|j|j
   ·exact .inl (.inl j)
   ·exact .inl (.inr j)
   ·exact .inr ⟨by omega,by rw[ρ];omega⟩),hv.same (fun i j=>R.block i (q0 i j)),Blk.new _ _ _,fun i j=>R.block i (h.k i (.inl j)).1⟩
 have f0:=η (fun W (k:Ext w W)=>hx.ext k);have k0:=η R;have I0:=η O0;clear h hv hx R n0 q0;go_enter Tryz.func136,Tryz.ntmps136;go_wp2_with fail;obtain⟨w1,c0⟩: ∃w1,w.alloc (.cells #[.int .i64 m.nx,.int .i64 m.ck,.int .u64 m.sd,.slice av m.L.length kv] 182)=w1:=⟨_,rfl⟩
 obtain⟨p,hp⟩: ∃p,w.heap.size=p:=⟨_,rfl⟩
 rw[c0,hp] at h0;rw[c0] at k0;simp only[c0,hp];clear c0 hp;obtain⟨d0,d5,p0,p1,p2,p3⟩:=h0.o.cells;refine q3e 10 (by kernel_rfl) (by kernel_rfl) ?_;simp only[List.take_succ_cons,List.take_zero,List.drop_succ_cons,List.drop_zero]
 repeat still_step
 refine wpStill_nil ?_;go_wp2_with fail;have J:=η (h0.o.grow (Ext.refl w1).drew);refine(y1L J.o.i.i.d n st.rate (f0.o _ k0.o.drew) hk M0).mono ?_;rintro e w2 ⟨f,f1,f2,rfl,hd⟩;have C:=η (J.o.disk hd)
 have HM:Hd (q2T σ m n l f=if (q0m σ n l f).1≠0 then((q0m σ n l f).1,none,(q2l (q0m σ n l f).2 n).2)
  else if (q2P (q0m σ n l f).2 m.S m.E).1≠0 then((q2P (q0m σ n l f).2 m.S m.E).1,none,(q2l (q2P (q0m σ n l f).2 m.S m.E).2 n).2)
  else match q5J (q2P (q0m σ n l f).2 m.S m.E).2 n with
  |(none,e,τ)=>(e,none,τ)
  |(some L,_,τ)=>(0,some L,τ)):=η rfl
 obtain⟨r1,j0⟩: ∃r1,q0m σ n l f=r1:=⟨_,rfl⟩
 rw[j0] at HM C;rw[j0];obtain⟨c1,σ1⟩:=r1;simp only at HM C;simp only;clear hd j0 d0 d5 p0 p1 p2 p3 J f0;by_cases h1:c1=0
 case neg=>
  have I:Hd (q2T σ m n l f=(c1,none,(q2l σ1 n).2)):=η (by rw[HM.o,ξ h1]);have g1:(c1==0)=false:=by simpa using h1
  have g2:(c1 !=0)=true:=by simpa using h1
  clear HM h1;obtain⟨d0,d5,p0,p1,p2,p3⟩:=C.o.cells;have HD:=η (z4Q C.o.i.i.d n);go_wp2_with fail;refine HD.o.mono ?_;rintro e w9 ⟨rfl,N⟩;have i0:=η (C.o.disk N);clear N HD;go_wp2_with fail;go_ret;refine⟨f,f1,f2,by rw[I.o];rfl,?_⟩;rw[I.o];exact i0.o.fin
 case pos=>
 subst h1;obtain⟨d0,d5,p0,p1,p2,p3⟩:=C.o.cells;have g0:=HM.o;rw[κ (fun h=>h rfl)] at g0;have G:=η g0;have Z:=η (C.o.grow (Ext.refl w2).drew);clear HM g0;go_wp2_with fail;refine q3e 5 (by kernel_rfl) (by kernel_rfl) ?_;simp only[List.take_succ_cons,List.take_zero,List.drop_succ_cons,List.drop_zero]
 repeat still_step
 refine wpStill_nil ?_;go_wp2_with fail;obtain⟨_,_,e0,O⟩:=Z.o.man.lev.grid
 cases e0;refine(y4i Z.o.i.i.d O (by omega) I0.o t0 u0 (S:=m.S) (E:=m.E) rfl ?_).mono ?_
 ·have:=m.S_le;omega
 rintro e w3 ⟨rfl,m0⟩;have r:=η (Z.o.disk m0);obtain⟨r2,b0⟩: ∃r2,q2P σ1 m.S m.E=r2:=⟨_,rfl⟩
 rw[b0] at G r;rw[b0];obtain⟨c2,z0⟩:=r2;simp only at G r;simp only;have B0:Hd (c2=0->m.E=0):=η fun h=>y3N (h▸b0)
 clear b0 m0 d0 d5 p0 p1 p2 p3 Z O;by_cases h2:c2=0
 case neg=>
  have I:Hd (q2T σ m n l f=(c2,none,(q2l z0 n).2)):=η (by rw[G.o,ξ h2]);have g2:(c2 !=0)=true:=by simpa using h2
  clear G h2;obtain⟨d0,d5,p0,p1,p2,p3⟩:=r.o.cells;have HD:=η (z4Q r.o.i.i.d n);go_wp2_with fail;refine HD.o.mono ?_;rintro e w9 ⟨rfl,N⟩;have i0:=η (r.o.disk N);clear N HD;go_wp2_with fail;go_ret;refine⟨f,f1,f2,by rw[I.o];rfl,?_⟩;rw[I.o];exact i0.o.fin
 case pos=>
 subst h2;have X:=G.o;rw[κ (fun h=>h rfl)] at X;obtain⟨d0,d5,p0,p1,p2,p3⟩:=r.o.cells;have HO:=η (z9J r.o.i.i.d n);obtain⟨r3,Q⟩: ∃r3,q5J z0 n=r3:=⟨_,rfl⟩
 rw[Q] at X HO;obtain⟨o,c3,A0⟩:=r3;have U:=η X;clear G X
 cases o with
 | none=>
  have I:Hd (q2T σ m n l f=(c3,none,A0)):=U;have g2:(c3 !=0)=true:=by simpa using z1X Q
  clear Q U;go_wp2_with fail;refine HO.o.mono ?_;rintro e w4 ⟨rfl,y⟩;have q:=η (r.o.disk y);clear y;go_wp2_with fail;go_ret;refine⟨f,f1,f2,by rw[I.o];rfl,?_⟩;rw[I.o];exact q.o.fin
 | some L=>
  have I:Hd (q2T σ m n l f=(0,some L,A0)):=U;obtain rfl:=z0X Q;clear Q U;go_wp2_with fail;refine HO.o.mono ?_;rintro e w5 ⟨t,may,T,w4,rfl,y,y0,x0,hT⟩;have q:=η ((r.o.disk y).grow y0);have G0:=η x0;have a0:Hd (∀i,T i->w4.heap.size<=i):=η hT;have E0:Hd (∀i,(K i\/V i\/i=p)->i<w4.heap.size):=η fun i j=>((r.o.disk y).i.k i j).1
  have D0:=η (r.o.disk y).i.i.d.Flt;have J0:=η (r.o.disk y).i.i.x.xlt;have H0:=η (r.o.disk y).i.ext.size;clear y y0 x0 hT HO d0 d5 p0 p1 p2 p3;go_wp2_with fail;obtain⟨v',S0,vm,D,nn,j⟩:=q.o.ixi;obtain⟨d0,d5,p0,p1,p2,p3⟩:=q.o.cells;have L0:(Lit.int .i64 n).wf=true:=WalkArith.wf_i64 (by omega);have x1:=j.c1;have x2:=j.c2;have x3:=j.c3;have x4:=j.c4;have x7:=j.c7;have z1:w5.frozen? ⟨gx,1,none⟩=false:=j.blk.free 1;have z2:w5.frozen? ⟨gx,2,none⟩=false:=j.blk.free 2;have z3:w5.frozen? ⟨gx,3,none⟩=false:=j.blk.free 3;have z4:w5.frozen? ⟨gx,4,none⟩=false:=j.blk.free 4;obtain⟨a',k',N0⟩:=j.lev.own.slice;subst N0;have Q0:=q.o.i.i.x.1.c;have R0:=j.cnt
  obtain⟨v0,sn,W1,W2,hE,hS,hO,hF⟩:=z9D (w:=((((w5.setCell ⟨gx,1,none⟩ (.int .i64 m.nx)).setCell ⟨gx,2,none⟩ (.int .i64 m.ck)).setCell ⟨gx,3,none⟩ (.int .u64 m.sd)).setCell ⟨gx,4,none⟩ (.slice av m.L.length kv)).drew) (q1g j.map (by
   show(((((w5.setCell ⟨gx,1,none⟩ (.int .i64 m.nx)).setCell ⟨gx,2,none⟩ (.int .i64 m.ck)).setCell ⟨gx,3,none⟩ (.int .u64 m.sd)).setCell ⟨gx,4,none⟩ (.slice av m.L.length kv))).heap[gt]? =_
   rw[Below.heap_setCell _ _ _ _ j.ne.2.1.symm,Below.heap_setCell _ _ _ _ j.ne.2.1.symm,Below.heap_setCell _ _ _ _ j.ne.2.1.symm,Below.heap_setCell _ _ _ _ j.ne.2.1.symm])) (by unfold maxLen;omega) L0 t
  have HI:=η j;have F0:=η hO;have C0:=η hF;clear j hO hF
  go_region
  go_wp2_with fail;go_ret;refine⟨f,f1,f2,by rw[I.o];rfl,?_⟩;rw[I.o];obtain⟨K0,r0⟩:=HI.o.putT q.o.man F0.o C0.o G0.o (fun i j=>⟨(q.o.i.k i (.inr (.inl j))).1,(q.o.i.k i (.inr (.inl j))).2.2.1⟩) (fun i j hx=>by have:=a0.o i j;have:=J0.o i hx;omega);have s0:=q.o.i.i.x.1;have o0:IxY W2 gx g gm gt (st.put m n ⟨t,L,may⟩) (fun i=>Y i\/V i\/T i):=⟨⟨⟨Man.E_ok (B0.o (by trivial)),t0,u0⟩,s0.mem,Nat.succ_le_of_lt hc⟩,_,_,_,_,_,K0⟩
  ·obtain⟨q1,q2⟩:=q.o.i.turnV o0 r0 (K:=K) (fun i j=>by
    rcases j with j|j|j
    ·exact⟨q.o.i.bY i j,fun hf=>(q.o.i.i.ap i hf).2 j⟩
    ·exact⟨(l0 i j).1,(q.o.i.k i (.inr (.inl j))).2.1⟩
    ·exact⟨by have:=a0.o i j;have:=H0.o;omega,fun hf=>by have:=a0.o i j;have:=D0.o i hf;omega⟩) (fun i j=>⟨.inl j,fun hy=>by
    rcases hy with hy|hy|hy
    ·exact(q.o.i.k i (.inl j)).2.2.2 hy
    ·exact(l0 i hy).2 j
    ·have:=a0.o i hy;have:=E0.o i (.inl j);omega⟩)
   exact⟨t,may,⟨_,_,_,_,q1⟩,q.o.stay.trans q2⟩
end
def Man.add(m:Man)(L2:List (List Int))(e:Int):Man:=⟨m.nx+1,e,m.sd,L2⟩
def z1w(wb w:World)(g gx:Nat)(st:IxSt)(σ:DM)(en:Int)(K:Nat->Prop)(r:Ending)(w':World):Prop:=
 (st.w=[]/\r= .returned (.int .i64 0)/\IxK wb w' g gx st σ K/\Stay K w w')\/
 (st.w≠[]/\(addS st.m.L st.m.nx).2≠0/\r= .returned (.int .i64 (addS st.m.L st.m.nx).2)/\IxK wb w' g gx st σ K/\Stay K w w')\/
 (st.w≠[]/\(addS st.m.L st.m.nx).2=0/\ ∃f:List UInt8,128<=f.length/\f.length<=64*(st.w.length/20+2)/\r= .returned (.int .i64 (q2T σ (st.m.add (addS st.m.L st.m.nx).1 en) st.m.nx st.w f).1)/\
  match (q2T σ (st.m.add (addS st.m.L st.m.nx).1 en) st.m.nx st.w f).2.1 with
  |none=>IxK wb w' g gx st (q2T σ (st.m.add (addS st.m.L st.m.nx).1 en) st.m.nx st.w f).2.2 K/\Stay K w w'
  |some L=> ∃b may,IxK wb w' g gx {st.put (st.m.add (addS st.m.L st.m.nx).1 en) st.m.nx ⟨b,L,may⟩ with w:=[]} (q2T σ (st.m.add (addS st.m.L st.m.nx).1 en) st.m.nx st.w f).2.2 K/\Stay K w w')
theorem z4q{L:List (List Int)}{x:Int}(h:(addS L x).2=0):¬x∈L.flatten/\L.length<=5/\(addS L x).1=q5j L x/\(∀y,y∈(addS L x).1.flatten↔y∈L.flatten\/y=x)/\(addS L x).1.flatten.length<=41:=by
 by_cases h1:q0e L=false\/x<0\/x∈L.flatten
 ·rw[z4p L x h1] at h;cases h
 by_cases h2:40<=L.flatten.length
 ·rw[z2D L x h1 h2] at h;cases h
 have d:L.length<=5:=by
  have d:q0e L=true:=by
   cases d:q0e L with
   |true=>rfl
   |false=>exact absurd (.inl d) h1
  unfold q0e at d;simp only[Φ] at d;exact d.1
 rw[z7Q L x h1 h2];have i:=z2C L x d;refine⟨fun j=>h1 (.inr (.inr j)),d,rfl,fun y=>?_,?_⟩
 ·rw[i.mem_iff,List.mem_append,Γ]
 ·have:=i.length_eq
  rw[θ,List.length_singleton] at this;show(q5j L x).flatten.length<=41;omega
section
variable {wb w w1 w2:World}{g gx gm gt:Nat}{st st1:IxSt}{F Y Y1 K K' V:Nat->Prop}{σ σ1:DM}
theorem IxK.clear(h:IxK wb w g gx st σ K){f:FuncId}{args:Nat->Array Value}(hc: ∀m v L,MemI w m v L->Calls P f (args m) w fun r w'=>r= .returned (.tuple #[])/\MemI w' m (.slice none 0 0) []/\OffS (fun i=>i=m) w w'):
  ∃m,w.cell? ⟨gx,6,none⟩=some (.pointer (some ⟨m,0,none⟩))/\Calls P f (args m) w fun r w'=>r= .returned (.tuple #[])/\IxK wb w' g gx {st with w:=[]} σ K/\Stay K w w':=by
 obtain⟨F,gm,gt,Y,h1⟩:=h;obtain⟨o,v,vs,vm,D,nn,d⟩:=h1.i.x;refine⟨gm,d.c6,(hc _ _ _ d.mem).mono ?_⟩;rintro r w' ⟨rfl,hm,j⟩;have q:IxY w' gx g gm gt {st with w:=[]} (fun i=>Y i\/(Value.slice none 0 0).ownBlock=some i):=⟨⟨o.man,okM.nil,o.c⟩,v,vs,_,D,nn,d.memTurn hm j (.inr fun i d=>by cases d)⟩
 obtain⟨y,C⟩:=h1.turn q (j.mono fun i _ d=> .inr (.inl d)) (fun i d=>by
  rcases d with d|d
  ·exact .inl d
  ·cases d)
 exact⟨rfl,⟨_,_,_,_,y⟩,C⟩
theorem z8a(h0:IxY w gx g gm gt st Y){gl:Nat}{P:DM->World->Prop}
  (N0:Calls Tryz.prog 85 #[.pointer (some ⟨gl,0,none⟩)] w fun e w1=>e= .returned (.int .i64 0)/\ ∃σ,IxK wb w1 g gx st σ K/\P σ w1)
  (i0: ∀σ w1 W,P σ w1->Ext w1 W->Calls Tryz.prog 111 #[.pointer (some ⟨gl,0,none⟩)] W fun e w'=>e= .returned (.int .i64 en)/\W=w')
  (hw:st.w.length<=1000)(hc:st.c<1000000):
  Calls Tryz.prog 86 #[.pointer (some ⟨gx,0,none⟩),.pointer (some ⟨gl,0,none⟩)] w fun e w'=> ∃σ w1,P σ w1/\z1w wb w1 g gx st σ en K e w':=by
 have HN:=η (q7L h0);have F0:=η N0;have X0:=η i0;clear h0 N0 i0;go_enter Tryz.func86,Tryz.ntmps86;go_wp2_with fail;refine HN.o.mono ?_;rintro e w1 ⟨rfl,rfl⟩;go_wp2_with fail;refine F0.o.mono ?_;rintro e w1 ⟨rfl,σ,hk,hp⟩;have HP:=η hp;have HK:=η hk;obtain⟨F1,s0,K0,Y1,h1⟩:=hk;have H1:=η h1;have e1:=h1.i.x;obtain⟨Q0,v,vs,vm,D,nn,d⟩:=e1;have HL:=η (y4I d.mem);have c6:=d.c6;have HI:=η d;have c0:=η Q0;clear hp h1 d Q0 HN F0;by_cases h2:st.w=[]
 ·have g1:((st.w.length:Int)==0)=true:=by rw[h2];rfl
  have HE:Hd (z1w wb w1 g gx st σ en K (.returned (.int .i64 0)) w1):=η (.inl ⟨h2,rfl,HK.o,Stay.refl _ _⟩);clear h2;go_wp2_with fail;refine HL.o.mono ?_;rintro e w2 ⟨rfl,rfl⟩;go_wp2_with fail;go_ret;exact⟨_,_,HP.o,HE.o⟩
 ·have g1:((st.w.length:Int)==0)=false:=by
   have:0<st.w.length:=Nat.pos_of_ne_zero fun h=>h2 (List.eq_nil_of_length_eq_zero h)
   rw[beq_eq_false_iff_ne];omega
  obtain⟨av,kv,rfl,O0⟩:=HI.o.grid;have J:=Man.bounds c0.o.man;have c1:=HI.o.c1;have c2:=HI.o.c2;have c3:=HI.o.c3;have c4:=HI.o.c4;have C0:=η (q8H st.m.nx st.m.ck st.m.sd av st.m.L.length kv st.m.L w1 O0 (fun i=>by have:=J.2.2.1 i;omega) (by omega));have R:=η J;have l0:=η h2;clear O0 J h2;go_wp2_with fail;refine HL.o.mono ?_;rintro e w2 ⟨rfl,rfl⟩;go_wp2_with fail;refine C0.o.mono ?_;rintro e w2 ⟨v2,o1,rfl,z0,hb⟩;have J0:=η hb;have l1:=η z0;obtain⟨a2,k2,rfl,j0⟩:=z0.grid;have G:=η (fun W (k:Ext w2 W)=>y5E a2 st.m.L.length k2 st.m.L st.m.nx W (j0.ext k) (by have:=R.o.2.1;omega) (by have:=R.o.1;omega) (fun x hx=>(R.o.2.2.2.1 x hx).1));clear hb z0 j0 C0 HL;go_wp2_with fail;have k0:Hd (Blk (w2.alloc (.cells #[.int .i64 st.m.nx,.int .i64 st.m.ck,.int .u64 st.m.sd,.slice a2 st.m.L.length k2] 182)) w2.heap.size 182 #[.int .i64 st.m.nx,.int .i64 st.m.ck,.int .u64 st.m.sd,.slice a2 st.m.L.length k2]):=η (Blk.new _ _ _);have q0:=η (q0B w2 (.cells #[.int .i64 st.m.nx,.int .i64 st.m.ck,.int .u64 st.m.sd,.slice a2 st.m.L.length k2] 182));have m0:Hd ((w2.alloc (.cells #[.int .i64 st.m.nx,.int .i64 st.m.ck,.int .u64 st.m.sd,.slice a2 st.m.L.length k2] 182)).heap.size=w2.heap.size+1):=η (ρ _ _);obtain⟨wB,B0⟩: ∃wB,w2.alloc (.cells #[.int .i64 st.m.nx,.int .i64 st.m.ck,.int .u64 st.m.sd,.slice a2 st.m.L.length k2] 182)=wB:=⟨_,rfl⟩
  obtain⟨y,a0⟩: ∃y,w2.heap.size=y:=⟨_,rfl⟩
  have a1:=η a0;rw[B0] at k0 q0 m0;rw[a0] at k0 m0;simp only[B0,a0];clear B0 a0;refine(G.o _ q0.o).mono ?_;rintro e N ⟨v3,T0,rfl,Z,v0⟩;obtain⟨a3,k3,rfl,P0⟩:=Z.grid;have O:=η ((J0.o.trans q0.o).trans v0);have I:=η (k0.o.ext v0);have C:=η Z;obtain⟨r,Q⟩: ∃r,addS st.m.L st.m.nx=r:=⟨_,rfl⟩
  have HR:=η Q;rw[Q] at C;rw[Q];obtain⟨L2,er⟩:=r;simp only at C;simp only;clear Z P0 v0 Q G c1 c2 c3 c4;by_cases g0:er=0
  case neg=>
   have g2:(er !=0)=true:=by simpa using g0
   have HE:Hd (z1w wb w1 g gx st σ en K (.returned (.int .i64 er)) N):=η (.inr (.inl ⟨l0.o,by rw[HR.o];exact g0,by rw[HR.o],HK.o.grow O.o,HK.o.kExt O.o⟩));clear g0;go_wp2_with fail;go_ret;exact⟨_,_,HP.o,HE.o⟩
  case pos=>
  subst g0;have W0:=η (X0.o _ w1 N HP.o O.o);have b0:N.cell? ⟨y,0,none⟩=some (.int .i64 st.m.nx):=I.o.cell 0;have b1:N.cell? ⟨y,1,none⟩=some (.int .i64 st.m.ck):=I.o.cell 1;have b2:N.cell? ⟨y,2,none⟩=some (.int .u64 st.m.sd):=I.o.cell 2;have b3:N.cell? ⟨y,3,none⟩=some (.slice a2 st.m.L.length k2):=I.o.cell 3;have f0:N.frozen? ⟨y,0,none⟩=false:=I.o.free 0;have f1:N.frozen? ⟨y,1,none⟩=false:=I.o.free 1;have f3:N.frozen? ⟨y,3,none⟩=false:=I.o.free 3;have q1:IntKind.i64.wrap (st.m.nx+1)=st.m.nx+1:=by have:=R.o.2.2.2.2;rw[ν];omega
  go_wp2_with fail;refine W0.o.mono ?_;rintro e w4 ⟨rfl,rfl⟩;go_wp2_with fail;have R0:=I.o.lt;have j1:=J0.o.size;have a0:=a1.o;have k1:=m0.o;obtain⟨V,hV⟩: ∃V:Nat->Prop,V=fun i=>((Value.slice a3 L2.length k3).ownBlock=some i\/ ∃q,(T0.getD q (.slice none 0 0)).ownBlock=some i):=⟨_,rfl⟩
  have u0: ∀i,V i->wB.heap.size<=i/\i<N.heap.size:=fun i d=>q5I C.o i (by rw[hV] at d;exact d)
  have j:OffS (fun i=>i=y) N (((N.setCell ⟨y,3,none⟩ (.slice a3 L2.length k3)).setCell ⟨y,0,none⟩ (.int .i64 (st.m.nx+1))).setCell ⟨y,1,none⟩ (.int .i64 en)):=
   ((OffS.set (F:=fun i=>i=y) N rfl 3 (.slice a3 L2.length k3)).trans (OffS.set (F:=fun i=>i=y) _ rfl 0 (.int .i64 (st.m.nx+1)))).trans (OffS.set (F:=fun i=>i=y) _ rfl 1 (.int .i64 en))
  have E:Blk (((N.setCell ⟨y,3,none⟩ (.slice a3 L2.length k3)).setCell ⟨y,0,none⟩ (.int .i64 (st.m.nx+1))).setCell ⟨y,1,none⟩ (.int .i64 en)) y 182 #[.int .i64 (st.m.nx+1),.int .i64 en,.int .u64 st.m.sd,.slice a3 L2.length k3]:=
   ((I.o.set 3 (.slice a3 L2.length k3)).set 0 (.int .i64 (st.m.nx+1))).set 1 (.int .i64 en)
  obtain⟨w4,A0⟩: ∃w4,((N.setCell ⟨y,3,none⟩ (.slice a3 L2.length k3)).setCell ⟨y,0,none⟩ (.int .i64 (st.m.nx+1))).setCell ⟨y,1,none⟩ (.int .i64 en)=w4:=⟨_,rfl⟩
  rw[A0] at j E;simp only[A0];have t0:IxF wb N g F1 σ gx s0 K0 st Y1 (fun i=>(K i\/i=y)\/V i):=H1.o.more O.o fun i d=>by
   rcases d with(d|d)|d
   ·exact .inl d
   ·exact .inr ⟨by omega,by rw[d];exact R0⟩
   ·have:=u0 i d;exact .inr ⟨by omega,this.2⟩
  have S:IxF wb w4 g F1 σ gx s0 K0 st Y1 (fun i=>(K i\/i=y)\/V i):=t0.side j.size (j.ext t0.ext fun i d=>by rw[d];have:=H1.o.ext.size;omega) fun i d hn=>j.block i d fun e=>hn (.inl (.inr e))
  have X:ManV w4 (st.m.add L2 en) (.slice a3 L2.length k3) T0 V:=⟨q2i (q6q C.o (υ _)) fun i d=>j.block i (q5I C.o i d).2 (fun e=>by have:=(q5I C.o i d).1;omega),fun i d=>by rw[hV];exact d⟩
  have Z0:Hd (∀i,V i->wb.heap.size<=i/\¬(K i\/i=y)):=η fun i d=>by
   have h1:=u0 i d;have h2:=H1.o.ext.size;refine⟨by omega,?_⟩;rintro(h3|h3)
   ·have:=(H1.o.k i h3).1;omega
   ·omega
  have H0:Hd (Stay K w1 w4):=η fun i d=>by
   have h1:=(H1.o.k i d).1;rw[j.block i (Ψ h1 O.o.size) (by omega),O.o.block i h1]
  obtain⟨_,v4,p1,n1,D4,m1,x0⟩:=S.i.x;have HC:Hd (∀W,Ext w4 W->(W.cell? ⟨y,0,none⟩=some (.int .i64 (st.m.nx+1))/\W.cell? ⟨y,1,none⟩=some (.int .i64 en)/\W.cell? ⟨y,2,none⟩=some (.int .u64 st.m.sd)/\W.cell? ⟨y,3,none⟩=some (.slice a3 L2.length k3))/\W.cell? ⟨gx,6,none⟩=some (.pointer (some ⟨s0,0,none⟩))):=η fun W hW=>
   ⟨⟨(E.ext hW).cell 0,(E.ext hW).cell 1,(E.ext hW).cell 2,(E.ext hW).cell 3⟩,(x0.ext hW).c6⟩
  have D0:=η (fun W (k:Ext w4 W)=>y2q (x0.mem.ext k) (by omega));have Y0:=η S;have i1:=η X;have J:=R.o;have e0:=z4q (L:=st.m.L) (x:=st.m.nx) (by rw[HR.o]);rw[HR.o] at e0
  have I0:Hd (∀W (k:Ext w4 W) (ae:Option Addr) (ce:Nat),Ens W ae st.w.length ce st.w->Calls Tryz.prog 136 #[.pointer (some ⟨gx,0,none⟩),.agg #[.int .i64 (st.m.nx+1),.int .i64 en,.int .u64 st.m.sd,.slice a3 L2.length k3],.int .i64 st.m.nx,.slice ae st.w.length ce] W fun e w'=>
   ∃f:List UInt8,128<=f.length/\f.length<=64*(st.w.length/20+2)/\e= .returned (.int .i64 (q2T σ (st.m.add L2 en) st.m.nx st.w f).1)/\y2B wb W g gx st (st.m.add L2 en) st.m.nx (fun i=>K i\/i=y) V (q2T σ (st.m.add L2 en) st.m.nx st.w f) w'):=η fun W k ae ce he=>
   y2A (m:=st.m.add L2 en) (S.grow k) (X.same fun i d=>S.kExt k i (.inr d)) Z0.o ⟨J.2.2.2.2.1,J.2.2.2.2.2.1⟩ he hw c0.o.mem.ok (fun x hx=>by
    rcases(e0.2.2.2.1 x).1 hx with h|h
    ·exact(J.2.2.2.1 x h).1
    ·rw[h];exact WalkArith.wf_i64 (by omega)) (by have:=e0.2.2.2.2;show L2.flatten.length<=1000;simp only at this;omega) c0.o.man.2.1 c0.o.man.2.2 hc
  have o0:=η (Ext.drew (Ext.refl w4));clear j E t0 S X x0 J e0 b0 b1 b2 b3 f0 f1 f3 u0 A0 hV;obtain⟨⟨y0,y1,y2,y3⟩,y6⟩:=HC.o _ o0.o
  go_region_law (go_simp;first|(go_at_call 137;refine(D0.o _ o0.o).mono ?_;rintro e w5 ⟨v5,rfl,S0,L0⟩;obtain⟨ae,ce,rfl,U⟩:=Ens.of_own (Own.of_row S0);have p0:=η (o0.o.trans L0);have E0:=η U;obtain⟨⟨r0,r1,r2,r3⟩,r6⟩:=HC.o _ p0.o;clear S0 L0 U)|(go_at_call 136;refine(I0.o _ p0.o _ _ E0.o).mono ?_;rintro e w6 ⟨f,f1,f2,rfl,hT⟩;have n0:=η hT;clear hT))
  all_goals
   have G0:Hd (Stay K w1 w5):=η (H0.o.trans fun i d=>Y0.o.kExt p0.o i (.inl (.inl d)));clear I0 D0 HC E0 y0 y1 y2 y3 y6 r0 r1 r2 r3 r6;obtain⟨r,Q⟩: ∃r,q2T σ (st.m.add L2 en) st.m.nx st.w f=r:=⟨_,rfl⟩
   have d0:=η Q;rw[Q] at n0;simp only[Q];obtain⟨c,o,τ⟩:=r;have G:Hd ((addS st.m.L st.m.nx).1=L2/\(addS st.m.L st.m.nx).2=0):=η (by rw[HR.o];exact⟨rfl,rfl⟩)
   cases o with
   | none=>
    have g2:(c !=0)=true:=by simpa using z0n Q
    have HE:Hd (z1w wb w1 g gx st σ en K (.returned (.int .i64 c)) w6):=η (.inr (.inr ⟨l0.o,G.o.2,f,f1,f2,by rw[G.o.1,d0.o],by
     rw[G.o.1,d0.o];have h:=n0.o
     exact⟨h.1.beside fun i d=> .inl d,G0.o.trans fun i d=>h.2 i (.inl d)⟩⟩))
    clear Q;go_wp2_with fail;go_ret;exact⟨_,_,HP.o,HE.o⟩
   | some L=>
    obtain rfl:=z0o Q;obtain⟨b,may,hk,hs⟩:=n0.o;obtain⟨m6,c6,M0⟩:=(hk.beside (K':=K) fun i d=> .inl d).clear (f:=138) (P:=Tryz.prog) (args:=fun m=>#[.pointer (some ⟨m,0,none⟩)]) (fun m v L h=>y0y h);have U0:=η M0;have d1:Hd (Stay K w1 w6):=η (G0.o.trans fun i d=>hs i (.inl d))
    have HE:Hd (∀W,IxK wb W g gx {st.put (st.m.add L2 en) st.m.nx ⟨b,L,may⟩ with w:=[]} τ K->Stay K w6 W->z1w wb w1 g gx st σ en K (.returned (.int .i64 0)) W):=η fun W h1 h2=> .inr (.inr ⟨l0.o,G.o.2,f,f1,f2,by rw[G.o.1,d0.o],by
     rw[G.o.1,d0.o]
     exact⟨b,may,h1,d1.o.trans h2⟩⟩)
    clear Q hk hs M0;go_wp2_with fail;refine U0.o.mono ?_;rintro e w7 ⟨rfl,h7,h8⟩;have V0:=η (HE.o _ h7 h8);clear h7 h8;go_wp2_with fail;go_ret;exact⟨_,_,HP.o,V0.o⟩
end
def q7E :DM->List Int->List (List En)->List (List En)×Int×DM
 |σ,[],acc=>(acc,0,σ)
 |σ,n::ns,acc=>if (z6J σ n).2.1≠0 then(acc,(z6J σ n).2.1,(z6J σ n).2.2) else q7E (z6J σ n).2.2 ns (acc++[(z6J σ n).1])
def q3l :DM->List Int->Int×DM
 |σ,[]=>(0,σ)
 |σ,n::ns=>if (q2l σ n).1≠0 then q2l σ n else q3l (q2l σ n).2 ns
def IxSt.del(st:IxSt)(ns:List Int):IxSt:=⟨st.m,st.rate,st.w,fun x=>if x∈ns then none else st.t x,st.c⟩
theorem IxSt.del_nil(st:IxSt):st.del []=st:=by unfold IxSt.del;simp
theorem IxSt.del_snoc(st:IxSt)(ns:List Int)(n:Int):(st.del ns).del [n]=st.del (ns++[n]):=by
 unfold IxSt.del;simp only
 congr 1
 funext x
 by_cases h1:x=n
 ·rw[ξ (by simpa using h1),ξ (by simp[h1])]
 ·rw[κ (by simpa using h1)]
  by_cases h2:x∈ns
  ·rw[ξ h2,ξ (by simp[h2])]
  ·rw[κ h2,κ (by simp[h1,h2])]
theorem q6D{L:List (List Int)}(h:(q1E L lv).2=0):q0e L=true/\0<=lv/\lv<5/\L.getD lv.toNat []≠[]/\(q1E L lv).1=L.getD lv.toNat []:=by
 unfold q1E at h⊢;by_cases h1:q0e L=false\/lv<0\/5<=lv
 ·rw[ξ h1] at h;cases h
 ·rw [κ h1] at h⊢
  by_cases h2:L.getD lv.toNat []=[]
  ·rw[ξ h2] at h;cases h
  ·rw[κ h2]
   refine⟨?_,by omega,by omega,h2,rfl⟩
   cases hv:q0e L with
   |true=>rfl
   |false=>exact absurd (.inl hv) h1
theorem q5q{L:List (List Int)}{x:Int}(h:q0U L lv x=(L2,0)):(q1E L lv).2=0/\¬(x<0\/x∈L.flatten)/\L2=z3a L lv.toNat x:=by
 unfold q0U at h;by_cases h1:(q1E L lv).2=0
 ·rw[κ (fun e=>e h1)] at h
  by_cases h2:x<0\/x∈L.flatten
  ·rw[ξ h2] at h;injection h with _ h;cases h
  ·rw[κ h2] at h;injection h with h _;exact⟨h1,h2,h.symm⟩
 ·rw[ξ h1] at h;injection h with _ h;exact absurd h h1
theorem q7r{L:List (List Int)}{x:Int}(h:q0U L lv x=(L2,0)):(L2.flatten++(q1E L lv).1).Perm (L.flatten++[x])/\(∀y∈L2.flatten,y∈L.flatten\/y=x)/\L2.flatten.length<=41:=by
 obtain⟨h1,h2,rfl⟩:=q5q h;obtain⟨o,r,C,D,q⟩:=q6D h1;have i:=q2b o;have d:=z3F L lv.toNat x i.1 (by omega);rw[<-q] at d;refine⟨d,fun y j=>?_,?_⟩
 ·have:=d.mem_iff.1 (List.mem_append.2 (.inl j))
  rcases List.mem_append.1 this with h4|h4
  ·exact .inl h4
  ·exact .inr (List.mem_singleton.1 h4)
 ·have:=d.length_eq
  rw[θ,θ,List.length_singleton] at this;have:=i.2.1;omega
def q6L(wb w:World)(g gx:Nat)(st:IxSt)(σ:DM)(lv:Int)(K:Nat->Prop)(e:Ending)(w':World):Prop:=
 ((q1E st.m.L lv).2≠0/\e= .returned (.int .i64 (q1E st.m.L lv).2)/\IxK wb w' g gx st σ K/\Stay K w w')\/
 ((q1E st.m.L lv).2=0/\ ∃A,q7E σ (q1E st.m.L lv).1 []=A/\
  ((A.2.1≠0/\e= .returned (.int .i64 A.2.1)/\IxK wb w' g gx st A.2.2 K/\Stay K w w')\/
   (A.2.1=0/\(q0U st.m.L lv st.m.nx).2≠0/\e= .returned (.int .i64 (q0U st.m.L lv st.m.nx).2)/\IxK wb w' g gx st A.2.2 K/\Stay K w w')\/
   (A.2.1=0/\(q0U st.m.L lv st.m.nx).2=0/\ ∃f:List UInt8,128<=f.length/\f.length<=64*((q1W A.1).length/20+2)/\ ∃c o τ,q2T A.2.2 (st.m.add (q0U st.m.L lv st.m.nx).1 st.m.ck) st.m.nx (q1W A.1) f=(c,o,τ)/\
    ((o =none/\e= .returned (.int .i64 c)/\IxK wb w' g gx st τ K/\Stay K w w')\/
     ∃ L b may j,o=some L/\j<=(q1E st.m.L lv).1.length/\((q3l τ (q1E st.m.L lv).1).1=0->j=(q1E st.m.L lv).1.length)/\e= .returned (.int .i64 (q3l τ (q1E st.m.L lv).1).1)/\
     IxK wb w' g gx ((st.put (st.m.add (q0U st.m.L lv st.m.nx).1 st.m.ck) st.m.nx ⟨b,L,may⟩).del ((q1E st.m.L lv).1.take j)) (q3l τ (q1E st.m.L lv).1).2 K/\Stay K w w'))))
section
variable {wb w0 w W W1 w1 w2:World}{g gx gm gt B:Nat}{st st1:IxSt}{F Y Y1 K K' V T:Nat->Prop}{σ σ1:DM}{va v v1 v2 vm:Value}{vs:List Value}{ns:List Int}{acc:List (List En)}{M L:List En}
theorem IxI.delT{D:DataW Unit}(h:IxI w gx g gm gt st v vs vm D nn Y)
  (r:w2.ownsMap Tryz.prog 3 q5i gt nn (D.del (.int .i64 n)))(d:OffS (fun i=>i=gt) w w2):IxI w2 gx g gm gt (st.del [n]) v vs vm (D.del (.int .i64 n)) nn Y:=by
 have q: ∀i,Y i->w2.heap[i]? =w.heap[i]? :=fun i j=>d.block i (h.lt i j) fun e=>h.apart i j (.inr (.inr e))
 refine⟨h.blk.same (d.block _ h.blk.lt h.ne.2.1),?_,q2i h.lev fun i j=>q i (h.inY i (j.elim .inl fun e=> .inr (.inl e))),r,h.cnt,fun x=>?_,fun x e o=>?_,h.inY,fun i j=>Ψ (h.lt i j) d.size,h.apart,h.ne⟩
 ·refine h.mem.same fun i j=>?_
  rcases j with rfl|j
  ·exact d.block _ h.mem.blk.lt h.ne.2.2
  ·exact q i (h.inY i (.inr (.inr j)))
 ·rw[y0w h.look x]
  unfold IxSt.del;simp only[Γ]
 ·unfold IxSt.del at o
  simp only[Γ] at o
  split at o
  ·cases o
  ·exact(h.tab x e o).same d.size q
theorem y0o(h : IxK wb w g gx st σ K)(R1:st.full)(lv:Int)(hc:st.c<1000000)
  (hs: ∀A,q7E σ (q1E st.m.L lv).1 []=A->A.2.1=0->(∀L∈A.1,q1C L/\ ∀x∈L,q3Q x=true)/\A.1.flatten.length<=1000000/\(q1W A.1).length<=1000):
  Calls Tryz.prog 87 #[.pointer (some ⟨gx,0,none⟩),.int .i64 lv] w (q6L wb w g gx st σ lv K):=by
 have HK:=η h;have HS:=η hs;obtain⟨F,gm,gt,Y,h1⟩:=h;have HN:=η (q7L h1.i.x);have T1:=h1.i.x.1;have k0:=Man.bounds T1.man;obtain⟨_,v,vs,vm,D,nn,y⟩:=h1.i.x;obtain⟨av,kv,rfl,K2⟩:=y.grid;have c4:=y.c4;have q2:=η (y1s av st.m.L.length kv st.m.L lv w K2 (by omega) (fun x hx=>(k0.2.2.2.1 x hx).1));have p2:=η T1;have N:=η k0;clear y T1 k0 h1 K2 hs;go_enter Tryz.func87,Tryz.ntmps87;go_wp2_with fail;refine HN.o.mono ?_;rintro e w1 ⟨rfl,rfl⟩;go_wp2_with fail;refine q2.o.mono ?_;rintro e w1 ⟨va,rfl,N0,I2⟩;obtain⟨aa,ka,rfl⟩:=N0.slice;have K1:=η I2;have u0:=η N0;obtain⟨r,Z⟩: ∃r,q1E st.m.L lv=r:=⟨_,rfl⟩
 have A0:=η Z;rw[Z] at u0 HS;rw[Z];obtain⟨ns,c⟩:=r;simp only at u0 HS;simp only;clear N0 I2 Z q2 c4 HN;by_cases m1:c=0
 case neg=>
  have g2:(c !=0)=true:=by simpa using m1
  have HE:Hd (q6L wb w g gx st σ lv K (.returned (.int .i64 c)) w1):=η (.inl ⟨by rw[A0.o];exact m1,by rw[A0.o],HK.o.grow K1.o,HK.o.kExt K1.o⟩);clear m1;go_wp2_with fail;go_ret;exact HE.o
 case pos=>
 subst m1
 have G1 :Hd ((∀x∈ns,x∈st.m.L.flatten)/\ns.length<=40):=η (by
  have h:=A0.o;unfold q1E at h
  split at h
  ·injection h with _ h;cases h
  ·split at h
   ·injection h with _ h;cases h
   ·injection h with h _
    subst h;refine⟨fun x hx=>?_,N.o.2.2.1 _⟩;rcases Nat.lt_or_ge lv.toNat st.m.L.length with hl|hl
    ·rw[δ,γ hl] at hx
     exact List.mem_flatten.2 ⟨_,List.getElem_mem hl,hx⟩
    ·rw[δ,List.getElem?_eq_none hl] at hx
     cases hx)
 obtain⟨A,hA⟩: ∃A,q7E σ ns []=A:=⟨_,rfl⟩
 have HA:=η hA
 have j0:Hd (∀e w',((A.2.1≠0/\e= .returned (.int .i64 A.2.1)/\IxK wb w' g gx st A.2.2 K/\Stay K w w')\/
   (A.2.1=0/\(q0U st.m.L lv st.m.nx).2≠0/\e= .returned (.int .i64 (q0U st.m.L lv st.m.nx).2)/\IxK wb w' g gx st A.2.2 K/\Stay K w w')\/
   (A.2.1=0/\(q0U st.m.L lv st.m.nx).2=0/\ ∃f:List UInt8,128<=f.length/\f.length<=64*((q1W A.1).length/20+2)/\ ∃c o τ,q2T A.2.2 (st.m.add (q0U st.m.L lv st.m.nx).1 st.m.ck) st.m.nx (q1W A.1) f=(c,o,τ)/\
    ((o =none/\e= .returned (.int .i64 c)/\IxK wb w' g gx st τ K/\Stay K w w')\/
     ∃ L b may j,o=some L/\j<=ns.length/\((q3l τ ns).1=0->j=ns.length)/\e= .returned (.int .i64 (q3l τ ns).1)/\
     IxK wb w' g gx ((st.put (st.m.add (q0U st.m.L lv st.m.nx).1 st.m.ck) st.m.nx ⟨b,L,may⟩).del (ns.take j)) (q3l τ ns).2 K/\Stay K w w')))->q6L wb w g gx st σ lv K e w'):=η (by
  intro e w' h;refine .inr ⟨by rw[A0.o],A,by rw[A0.o];exact hA,?_⟩;rw[A0.o]
  exact h)
 have t3:=η (HS.o A hA);have m2:=η (LsW.start HK.o (W:=w1) K1.o u0.o);obtain⟨n,hn⟩: ∃n,ns.length=n:=⟨_,rfl⟩
 have Q:=η hn;have H3:n<=40:=by rw[<-hn];exact G1.o.2
 rw[hn] at m2;rw[hn];clear hn hA u0 HS;go_wp2_with fail
 go_loopw [7,35] (fun lz i W=> ∃(k:Nat) (vs:List Value) (acc:List (List En)) (τ:DM),k<=n/\i= .int .i64 (k:Int)/\LsW wb w W g gx st τ K (.slice aa n ka) lz vs ns acc w.heap.size/\acc.length=k/\q7E τ (ns.drop k) acc=A) (fun _ i _=>n-(intOf i).toNat)
 case atStart=>exact⟨0,[],[],σ,υ _,rfl,m2.o,rfl,HA.o⟩
 case round =>
  obtain⟨k,a0,acc,τ,hk,rfl,D0,l1,C⟩:=hrel;have O:=η D0;have B1:=η l1;have d0:=η C;obtain⟨al,kl,rfl,v0⟩:=D0.ls.grid;rw[l1] at v0 O;rw[l1];clear D0 l1 C;by_cases S1:k<n
  ·have hd:decide ((k:Int)<(n:Int))=true:=ζ (by omega)
   have q1:IntKind.i64.wrap ((k:Int)+1)=(k:Int)+1:=by rw[ν];omega
   have q5:(k:Int)<(n:Int):=by omega
   obtain⟨_,_,ea,q0⟩:=q2H O.o.all;rw[Q.o] at ea
   cases ea;rw[Q.o] at q0;obtain⟨ba,oa,rfl,n0⟩:=q0.at S1;have o0:k<ns.length:=by rw[Q.o];exact S1
   have S:ns.drop k=ns.getD k 0::ns.drop (k+1):=by
    rw[List.drop_eq_getElem_cons o0,δ,γ o0];rfl
   have X:ns.getD k 0∈st.m.L.flatten:=G1.o.1 _ (q3a ns k o0);have C:=d0.o;rw[S] at C;obtain⟨e,he⟩:=R1 _ X;have o1:=(N.o.2.2.2.1 _ X).1;generalize ns.getD k 0=nk at*;rw[q7E] at C;obtain⟨F2,g1,C0,Y2,h2⟩:=O.o.i;have J1:=η (y4l (h2.tb he));have D1:=η h2;obtain⟨_,v2,T2,S2,D2,Z1,E⟩:=h2.i.x;have c7:=E.c7;have N2:=E.at o1 he;obtain⟨r,Z⟩: ∃r,z6J τ nk=r:=⟨_,rfl⟩
   rw[Z] at C J1;obtain⟨M,c,V2⟩:=r;simp only at C;have B0:=η C;have l3:=η N2;clear q0 S X C h2 E Z v0;go_wp2_with fail;refine J1.o.mono ?_;rintro e3 w3 ⟨v3,rfl,E0⟩;simp only at E0;obtain⟨a3,k3,rfl⟩:=q0G E0.row;obtain⟨⟨F3,h3⟩,p0⟩:=D1.o.row E0;have C3:=E0.off.size;have u1:=η E0.row;have J:=η h3;have e0:=η p0;clear E0 h3 p0 J1 c7 l3 N2;by_cases hc:c=0
   case neg=>
    have g2:(c !=0)=true:=by simpa using hc
    have HE:Hd (q6L wb w g gx st σ lv K (.returned (.int .i64 c)) w3):=η (j0.o _ _ (.inl (by
     have h:=B0.o;rw[ξ hc] at h;rw[<-h]
     exact⟨hc,rfl,⟨_,_,_,_,J.o.beside fun i y=> .inl (.inl y)⟩,O.o.stay.trans fun i y=>e0.o i (.inl y)⟩)))
    clear hc;go_wp2_with fail;go_ret;exact HE.o
   case pos=>
   subst hc;have q3:Hd (q7E V2 (ns.drop (k+1)) (acc++[M])=A):=η (by have h:=B0.o;rw[κ (fun h=>h rfl)] at h;exact h);obtain⟨M1,k1⟩: ∃M1,M.length=M1:=⟨_,rfl⟩
   have n3:=η k1;rw[k1] at J u1;rw[k1]
   have u2:Hd ((w3.alloc (.cells #[.slice a3 M1 k3] 206)).ownsRow w.heap.size 206 1 (.slice al k kl) k a0):=η (by
    have h:=(O.o.ls.same (w':=w3) fun i y=>e0.o i (.inr (.inr y))).own;rw[B1.o] at h
    exact q0I h (q0B _ _))
   have P3:=O.o.base.2;have x3:Hd (w.heap.size<=(w3.alloc (.cells #[.slice a3 M1 k3] 206)).heap.size):=η (by rw[ρ];omega);clear B0 k1
   go_wp2_with (at_builtin;refine q0J rfl (.tmp 52) (.tmp 54) 210 rfl w.heap.size 206 _ 1 24 Tryz.underlying210 Tryz.infoLs (by decide) (by decide) _ k a0 rfl u2.o _ 1 1 [.slice a3 M1 k3] rfl rfl (fun h=>by cases h) (Rd.lit _ _ _) (fun u hu=>by rw[List.mem_singleton.1 hu];rfl) (by unfold maxLen;omega) (by omega) x3.o ?_;intro v4 w4 T0 Q0 G2;obtain⟨a4,k4,rfl⟩:=q0G T0;have p3:=η T0;have Z2:=η Q0;have X2:=η G2;clear T0 Q0 G2)
   go_roundw
   case rel=>
    refine⟨k+1,a0++[.slice a3 M1 k3],acc++[M],V2,S1,by go_num,?_,by rw[θ,B1.o];rfl,q3.o⟩;have hl:=O.o;exact hl.push (M:=M) ⟨_,_,_,_,J.o⟩ e0.o C3 (by rw[n3.o];exact u1.o) (by rw[B1.o];exact p3.o) Z2.o X2.o
   case measure=>simp[intOf];omega
  ·obtain rfl : k=n:=by omega
   have hd:decide ((k:Int)<(k:Int))=false:=ε (by omega);have C:=d0.o;rw[List.drop_of_length_le (by rw[Q.o];exact ι _),q7E] at C;have X0:=η C;have V1:=t3.o (by rw[<-C]);rw[<-C] at V1;have K0:=η V1;clear C V1 d0;obtain⟨F2,g1,C0,Y2,h2⟩:=O.o.i;have H2:=η h2;obtain⟨_,v2,T2,S2,D2,Z1,E⟩:=h2.i.x;obtain⟨z3,E3,rfl,l0⟩:=E.grid;have c1:=E.c1;have c2:=E.c2;have c3:=E.c3;have c4:=E.c4;have d2:=η (q8H st.m.nx st.m.ck st.m.sd z3 st.m.L.length E3 st.m.L wr l0 (fun i=>by have:=N.o.2.2.1 i;omega) (by have:=N.o.1;omega));have s1:=η (fun W (hx:Ext wr W)=>v0.ext hx);clear l0 h2 E v0;go_wp2_with fail;refine d2.o.mono ?_;rintro e w2 ⟨R3,M3,rfl,O2,hb⟩;have L1:=η hb;obtain⟨a2,k2,rfl,l0⟩:=O2.grid;have t2:=η (fun W (k:Ext w2 W)=>z9U a2 st.m.L.length k2 st.m.L lv st.m.nx W (l0.ext k) (by have:=N.o.2.1;omega) (by have:=N.o.1;omega) (fun x hx=>(N.o.2.2.2.1 x hx).1));have z0:Hd (Blk (w2.alloc (.cells #[.int .i64 st.m.nx,.int .i64 st.m.ck,.int .u64 st.m.sd,.slice a2 st.m.L.length k2] 182)) w2.heap.size 182 #[.int .i64 st.m.nx,.int .i64 st.m.ck,.int .u64 st.m.sd,.slice a2 st.m.L.length k2]):=η (Blk.new _ _ _);have e1:=η (q0B w2 (.cells #[.int .i64 st.m.nx,.int .i64 st.m.ck,.int .u64 st.m.sd,.slice a2 st.m.L.length k2] 182));have Y0:Hd ((w2.alloc (.cells #[.int .i64 st.m.nx,.int .i64 st.m.ck,.int .u64 st.m.sd,.slice a2 st.m.L.length k2] 182)).heap.size=w2.heap.size+1):=η (ρ _ _);obtain⟨wB,D3⟩: ∃wB,w2.alloc (.cells #[.int .i64 st.m.nx,.int .i64 st.m.ck,.int .u64 st.m.sd,.slice a2 st.m.L.length k2] 182)=wB:=⟨_,rfl⟩
   obtain⟨I,U1⟩: ∃I,w2.heap.size=I:=⟨_,rfl⟩
   have s2:=η U1;rw[D3] at z0 e1 Y0;rw[U1] at z0 Y0;have m0:wB.cell? ⟨I,0,none⟩=some (.int .i64 st.m.nx):=z0.o.cell 0;have m3:wB.cell? ⟨I,3,none⟩=some (.slice a2 st.m.L.length k2):=z0.o.cell 3;clear O2 hb l0 d2;go_wp2_with fail;refine(t2.o _ e1.o).mono ?_;rintro e w3 ⟨v3,U2,rfl,S0,P1⟩;obtain⟨a3,k3,rfl,M2⟩:=S0.grid;have L0:=η ((L1.o.trans e1.o).trans P1);have h0:=η (z0.o.ext P1);have R:=η S0;obtain⟨r,Z⟩: ∃r,q0U st.m.L lv st.m.nx=r:=⟨_,rfl⟩
   have HR:=η Z;rw[Z] at R;rw[Z];obtain⟨L2,er⟩:=r;simp only at R;simp only;have b0:w3.cell? ⟨I,0,none⟩=some (.int .i64 st.m.nx):=h0.o.cell 0;have b1:w3.cell? ⟨I,1,none⟩=some (.int .i64 st.m.ck):=h0.o.cell 1;have b2:w3.cell? ⟨I,2,none⟩=some (.int .u64 st.m.sd):=h0.o.cell 2;have b3:w3.cell? ⟨I,3,none⟩=some (.slice a2 st.m.L.length k2):=h0.o.cell 3;have f0:w3.frozen? ⟨I,0,none⟩=false:=h0.o.free 0;have f3:w3.frozen? ⟨I,3,none⟩=false:=h0.o.free 3;have P2:=h0.o.lt;have I3:=L1.o.size;have U1:=s2.o;have J3:=Y0.o;have Q3:=O.o.base.2;have L3:=O.o.wbl;obtain⟨V,hV⟩: ∃V:Nat->Prop,V=fun i=>((Value.slice a3 L2.length k3).ownBlock=some i\/ ∃q,(U2.getD q (.slice none 0 0)).ownBlock=some i):=⟨_,rfl⟩
   have O1: ∀i,V i->wB.heap.size<=i/\i<w3.heap.size:=fun i y=>q5I R.o i (by rw[hV] at y;exact y)
   have B2:IxF wb w3 g F2 τ gx g1 C0 st Y2 (fun i=>((K i\/z3Y (.slice aa k ka) (.slice al k kl) a0 i)\/i=I)\/V i):=H2.o.more L0.o fun i y=>by
    rcases y with(y|y)|y
    ·exact .inl y
    ·exact .inr ⟨by omega,by rw[y];exact P2⟩
    ·have:=O1 i y;exact .inr ⟨by omega,this.2⟩
   have J:=η B2;have A2:=η O1;have HV:=η hV;have e0:Hd (Stay (fun i=>K i\/z3Y (.slice aa k ka) (.slice al k kl) a0 i) wr w3):=η (H2.o.kExt L0.o);clear S0 M2 P1 Z B2 O1 hV t2 c1 c2 c3 c4 m0 m3 s2 Y0;by_cases n1:er=0
   case neg=>
    have g2:(er !=0)=true:=by simpa using n1
    have HE:Hd (∀W,OffS (fun i=>i=I) w3 W->q6L wb w g gx st σ lv K (.returned (.int .i64 er)) W):=η fun W hW=>j0.o _ _ (.inr (.inl (by
     rw[<-X0.o,HR.o];refine⟨rfl,n1,rfl,⟨_,_,_,_,(J.o.side hW.size (hW.ext J.o.ext fun i y=>by rw[y];have:=H2.o.ext.size;omega) fun i y hn=>hW.block i y fun e=>hn (.inl (.inr e))).beside fun i y=> .inl (.inl (.inl y))⟩,fun i y=>?_⟩;have h1:=(H2.o.k i (.inl y)).1;rw[hW.block i (Ψ h1 L0.o.size) (by omega),e0.o i (.inl y)]
     exact O.o.stay i y)))
    clear n1;go_wp2_with fail;go_ret;exact HE.o _ (OffS.set (F:=fun i=>i=I) _ rfl _ _)
   case pos=>
   subst n1;have q1:IntKind.i64.wrap (st.m.nx+1)=st.m.nx+1:=by have:=N.o.2.2.2.2;rw[ν];omega
   go_wp2_with fail;have G:OffS (fun i=>i=I) w3 ((w3.setCell ⟨I,3,none⟩ (.slice a3 L2.length k3)).setCell ⟨I,0,none⟩ (.int .i64 (st.m.nx+1))):=
    (OffS.set (F:=fun i=>i=I) w3 rfl 3 (.slice a3 L2.length k3)).trans (OffS.set (F:=fun i=>i=I) _ rfl 0 (.int .i64 (st.m.nx+1)))
   have g0:Blk ((w3.setCell ⟨I,3,none⟩ (.slice a3 L2.length k3)).setCell ⟨I,0,none⟩ (.int .i64 (st.m.nx+1))) I 182 #[.int .i64 (st.m.nx+1),.int .i64 st.m.ck,.int .u64 st.m.sd,.slice a3 L2.length k3]:=
    (h0.o.set 3 (.slice a3 L2.length k3)).set 0 (.int .i64 (st.m.nx+1))
   obtain⟨w4,X1⟩: ∃w4,(w3.setCell ⟨I,3,none⟩ (.slice a3 L2.length k3)).setCell ⟨I,0,none⟩ (.int .i64 (st.m.nx+1))=w4:=⟨_,rfl⟩
   rw[X1] at G g0;simp only[X1];have i1:IxF wb w4 g F2 τ gx g1 C0 st Y2 (fun i=>((K i\/z3Y (.slice aa k ka) (.slice al k kl) a0 i)\/i=I)\/V i):=J.o.side G.size (G.ext J.o.ext fun i y=>by rw[y];have:=H2.o.ext.size;omega) fun i y hn=>G.block i y fun e=>hn (.inl (.inr e))
   have R0:ManV w4 (st.m.add L2 st.m.ck) (.slice a3 L2.length k3) U2 V:=⟨q2i (q6q R.o (υ _)) fun i y=>G.block i (q5I R.o i y).2 (fun e=>by have:=(q5I R.o i y).1;omega),fun i y=>by rw[HV.o];exact y⟩
   have M0:Ext wr w4:=G.ext L0.o fun i y=>by rw[y];omega
   have l2:Hd (∀i,V i->wb.heap.size<=i/\¬((K i\/z3Y (.slice aa k ka) (.slice al k kl) a0 i)\/i=I)):=η fun i y=>by
    have h1:=A2.o i y;have h2:=H2.o.ext.size;refine⟨by omega,?_⟩;rintro(h3|h3)
    ·have:=(H2.o.k i h3).1;omega
    ·omega
   have x1:Hd (Stay (fun i=>K i\/z3Y (.slice aa k ka) (.slice al k kl) a0 i) wr w4):=η fun i y=>M0.block i (H2.o.k i y).1
   have HC:Hd (∀W,Ext w4 W->W.cell? ⟨I,0,none⟩=some (.int .i64 (st.m.nx+1))/\W.cell? ⟨I,1,none⟩=some (.int .i64 st.m.ck)/\W.cell? ⟨I,2,none⟩=some (.int .u64 st.m.sd)/\W.cell? ⟨I,3,none⟩=some (.slice a3 L2.length k3)):=η fun W hW=>
    ⟨(g0.ext hW).cell 0,(g0.ext hW).cell 1,(g0.ext hW).cell 2,(g0.ext hW).cell 3⟩
   have F1:=η (fun W (hx:Ext w4 W)=>z8q W (s1.o W (M0.trans hx)) (by omega) K0.o.2.1 (fun L hL=>(K0.o.1 L hL).1));have i2:=η i1;have n2:=η R0;have k0:=N.o;have N1:=(q7r HR.o).2;have C2:(q1W acc).length<=1000:=K0.o.2.2;have E2:=y1e (Ls:=acc) fun L hL=>(K0.o.1 L hL).2
   obtain⟨U,hU⟩: ∃U,q1W acc=U:=⟨_,rfl⟩
   rw[hU] at F1 C2 E2;have HU:=η hU
   have z2:Hd (∀W (hx:Ext w4 W) (ae:Option Addr) (ce:Nat),Ens W ae U.length ce U->Calls Tryz.prog 136 #[.pointer (some ⟨gx,0,none⟩),.agg #[.int .i64 (st.m.nx+1),.int .i64 st.m.ck,.int .u64 st.m.sd,.slice a3 L2.length k3],.int .i64 st.m.nx,.slice ae U.length ce] W fun e w'=>
    ∃f:List UInt8,128<=f.length/\f.length<=64*(U.length/20+2)/\e= .returned (.int .i64 (q2T τ (st.m.add L2 st.m.ck) st.m.nx U f).1)/\y2B wb W g gx st (st.m.add L2 st.m.ck) st.m.nx (fun i=>(K i\/z3Y (.slice aa k ka) (.slice al k kl) a0 i)\/i=I) V (q2T τ (st.m.add L2 st.m.ck) st.m.nx U f) w'):=η fun W hx ae ce he=>
    y2A (m:=st.m.add L2 st.m.ck) (i1.grow hx) (R0.same fun i y=>i1.kExt hx i (.inr y)) l2.o ⟨k0.2.2.2.2.1,k0.2.2.2.2.2.1⟩ he C2 E2 (fun x hx=>by
     rcases N1.1 x hx with h|h
     ·exact(k0.2.2.2.1 x h).1
     ·rw[h];exact WalkArith.wf_i64 (by omega)) (by have:=N1.2;show L2.flatten.length<=1000;omega) p2.o.man.2.1 p2.o.man.2.2 hc
   have a1:=η (Ext.drew (Ext.refl w4));clear G g0 i1 R0 k0 N1 b0 b1 b2 b3 f0 f3 X1 hU M0;obtain⟨y0,y1,y2,y3⟩:=HC.o _ a1.o
   go_region_law (go_simp;first|(go_at_call 142;refine(F1.o _ a1.o).mono ?_;rintro e w5 ⟨v5,rfl,Q2,J2⟩;obtain⟨ae,ce,rfl,P0⟩:=Ens.of_own (Own.of_row Q2);have d1:=η (a1.o.trans J2);have e2:=η P0;obtain⟨r0,r1,r2,r3⟩:=HC.o _ d1.o;clear Q2 J2 P0)|(go_at_call 136;refine(z2.o _ d1.o _ _ e2.o).mono ?_;rintro e w6 ⟨f,f1,f2,rfl,hT⟩;have Z0:=η hT;clear hT))
   all_goals
    have H1:Hd (Stay (fun i=>K i\/z3Y (.slice aa k ka) (.slice al k kl) a0 i) wr w5):=η (x1.o.trans fun i y=>i2.o.kExt d1.o i (.inl (.inl y)));clear z2 F1 HC e2 y0 y1 y2 y3 r0 r1 r2 r3;obtain⟨r,Z⟩: ∃r,q2T τ (st.m.add L2 st.m.ck) st.m.nx U f=r:=⟨_,rfl⟩
    have d0:=η Z;rw[Z] at Z0;simp only[Z];obtain⟨c,o,W0⟩:=r
    cases o with
    | none=>
     have g2:(c !=0)=true:=by simpa using z0n Z
     have HE:Hd (q6L wb w g gx st σ lv K (.returned (.int .i64 c)) w6):=η (j0.o _ _ (.inr (.inr (by
      rw[<-X0.o,HR.o];refine⟨rfl,rfl,f,f1,by simp only;rw[HU.o];exact f2,c,none,W0,by simp only;rw[HU.o];exact d0.o,.inl ⟨rfl,rfl,?_⟩⟩;have h:=Z0.o
      exact⟨h.1.beside fun i y=> .inl (.inl y),O.o.stay.trans (fun i y=>H1.o i (.inl y))|>.trans fun i y=>h.2 i (.inl (.inl y))⟩))))
     clear Z;go_wp2_with fail;go_ret;exact HE.o
    | some L =>
     obtain rfl:=z0o Z;obtain⟨b,may,hk,R2⟩:=Z0.o;have I1:Hd (Stay (fun i=>K i\/z3Y (.slice aa k ka) (.slice al k kl) a0 i) wr w6):=η (H1.o.trans fun i y=>R2 i (.inl y));have K3:wr.heap.size<=w6.heap.size:=by
      obtain⟨F9,N3,O3,Y9,q9⟩:=hk;have h1:=(q9.k I (.inr rfl)).1;omega
     obtain⟨D,hD⟩: ∃D,q3l W0 ns=D:=⟨_,rfl⟩
     have HD:=η hD;obtain⟨F0,U0⟩: ∃F0,F0=st.put (st.m.add L2 st.m.ck) st.m.nx ⟨b,L,may⟩:=⟨_,rfl⟩
     rw[<-U0] at hk
     have G0:Hd (∀e w',(∃j,j<=ns.length/\(D.1=0->j=ns.length)/\e= .returned (.int .i64 D.1)/\IxK wb w' g gx (F0.del (ns.take j)) D.2 K/\Stay K w w')->q6L wb w g gx st σ lv K e w'):=η (by
      rintro e w' ⟨j,j1,j2,j3,j4,j5⟩;refine j0.o _ _ (.inr (.inr ?_));rw[<-X0.o,HR.o];refine⟨rfl,rfl,f,f1,by simp only;rw[HU.o];exact f2,0,some L,W0,by simp only;rw[HU.o];exact d0.o,.inr ⟨L,b,may,j,rfl,j1,?_,?_,?_,j5⟩⟩
      ·rw[hD];exact j2
      ·rw[hD];exact j3
      ·rw[hD,<-U0];exact j4)
     have g3:Hd (LsW wb w w6 g gx (F0.del (ns.take 0)) W0 K (.slice aa k ka) (.slice none 0 0) [] ns [] w.heap.size):=η ⟨by
       rw[List.take_zero,IxSt.del_nil];exact hk.beside fun i y=>by
        rcases y with y|y|y|⟨q,y⟩
        ·exact .inl (.inl y)
        ·exact .inl (.inr (.inl y))
        ·cases y
        ·simp[Value.ownBlock] at y,O.o.all.same fun i y=>I1.o i (.inr (.inl y)),EGo.nil _ _,O.o.stay.trans fun i y=>I1.o i (.inl y),⟨ι _,by omega⟩,O.o.kl,O.o.wbl⟩
     clear Z hk R2 hD U0 Z0 H1 I1 O J i2 n2 l2 e0 x1 A2 HV d1 a1 HU HR d0 j0 K0 X0 R h0 L0 z0 e1 L1 s1 H2;go_wp2_with fail
     go_loopw [90] (fun i W=> ∃(j:Nat) (p1:DM),j<=k/\i= .int .i64 (j:Int)/\LsW wb w W g gx (F0.del (ns.take j)) p1 K (.slice aa k ka) (.slice none 0 0) [] ns [] w.heap.size/\q3l p1 (ns.drop j)=D) (fun i _=>k-(intOf i).toNat)
     case atStart=>exact⟨0,W0,υ _,rfl,g3.o,HD.o⟩
     case round=>
      obtain⟨j,p1,hj,rfl,D0,C⟩:=hrel;have O:=η D0;have d0:=η C;clear D0 C;by_cases x0:j<k
      ·have hd:decide ((j:Int)<(k:Int))=true:=ζ (by omega)
       have q1:IntKind.i64.wrap ((j:Int)+1)=(j:Int)+1:=by rw[ν];omega
       have q5:(j:Int)<(k:Int):=by omega
       obtain⟨_,_,ea,q0⟩:=q2H O.o.all;rw[Q.o] at ea
       cases ea;rw[Q.o] at q0;obtain⟨ba,oa,rfl,n0⟩:=q0.at x0;have o0:j<ns.length:=by rw[Q.o];exact x0
       have S:ns.drop j=ns.getD j 0::ns.drop (j+1):=by
        rw[List.drop_eq_getElem_cons o0,δ,γ o0];rfl
       have V0:ns.take (j+1)=ns.take j++[ns.getD j 0]:=q0W ns 0 j o0;have X:ns.getD j 0∈st.m.L.flatten:=G1.o.1 _ (q3a ns j o0);have C:=d0.o;rw[S] at C;have o1:=(N.o.2.2.2.1 _ X).1;have B3:=N.o.2.2.2.1 _ X;generalize ns.getD j 0=nk at*;rw[q3l] at C;obtain⟨F2,g1,C0,Y2,h2⟩:=O.o.i;have D1:=η h2;obtain⟨z1,v2,T2,S2,D2,Z1,E⟩:=h2.i.x;have c7:=E.c7;have d3:=η E;have I0:=η z1;have o2:=η E.map;have t1:Hd (keyOf Tryz.prog 3 (.int .i64 nk)=some (.int .i64 nk)):=η (keyOf_int_mk Tryz.underlying3 o1);have B0:=η C;have u3:=η V0;clear q0 S V0 X C h2 E z1 o1 B3
       go_wp2_with (at_delete;refine wpList_delete_own _ rfl _ _ 193 3 rfl 212 Tryz.keyInt Tryz.underlying193 q5i C0 Z1 D2 rfl o2.o _ (.int .i64 nk) rfl t1.o ?_;intro w3 t0 i0;have o3:=η t0;have x2:=η i0;have H0:=η (d3.o.delT t0 (OffS.turned i0 rfl));have A3:=H0.o.c0;clear t0 i0)
       have s0:=OffS.turned x2.o (F:=fun i=>i=C0) rfl
       obtain⟨h3,p0⟩:=D1.o.turn (st1:=F0.del (ns.take (j+1))) (Y1:=Y2) ⟨⟨I0.o.man,I0.o.mem,I0.o.c⟩,_,_,_,_,_,by
        have h:=H0.o;rw[IxSt.del_snoc,<-u3.o] at h
        exact h⟩ (s0.mono fun i _ y=> .inr (.inr y)) (fun i y=> .inl y)
       have J:=η h3;have i3:=η (O.o.step ⟨_,_,_,_,h3⟩ p0 s0.size);have C1:=η (z4Q h3.i.d nk);obtain⟨r,Z⟩: ∃r,q2l p1 nk=r:=⟨_,rfl⟩
       have C:=B0.o;rw[Z] at C1 C;obtain⟨c,W2⟩:=r;simp only at C;have J0:=η C;clear C Z h3 p0 s0 B0;refine C1.o.mono ?_;rintro e4 G3 ⟨rfl,Q1⟩;obtain⟨h4,A1⟩:=J.o.disk Q1;have E1:=η (i3.o.step ⟨_,_,_,_,h4⟩ A1 Q1.off.size);clear Q1 h4 A1 C1 J c7 A3 H0 o2 t1 o3 x2;by_cases O0:c=0
       case neg=>
        have g2:(c !=0)=true:=by simpa using O0
        have HE:Hd (q6L wb w g gx st σ lv K (.returned (.int .i64 c)) G3):=η (G0.o _ _ (by
         have h:=J0.o;rw[ξ O0] at h;rw[<-h]
         exact⟨j+1,by rw[Q.o];exact x0,fun e=>absurd e O0,rfl,E1.o.i.beside fun i y=> .inl y,E1.o.stay⟩))
        clear O0;go_wp2_with fail;go_ret;exact HE.o
       case pos=>
       subst O0;have s3:Hd (q3l W2 (ns.drop (j+1))=D):=η (by have h:=J0.o;rw[κ (fun h=>h rfl)] at h;exact h);clear J0;go_wp2_with fail
       go_roundw
       case rel=>exact⟨j+1,W2,x0,by go_num,E1.o,s3.o⟩
       case measure=>simp[intOf];omega
      ·obtain rfl:j=k:=by omega
       have hd:decide ((j:Int)<(j:Int))=false:=ε (by omega);have C:=d0.o;rw[List.drop_of_length_le (by rw[Q.o];exact ι _),q3l] at C
       have HE:Hd (q6L wb w g gx st σ lv K (.returned (.int .i64 0)) wr):=η (G0.o _ _ (by
        rw[<-C]
        exact⟨j,by rw[Q.o];exact ι _,fun _=>Q.o.symm,rfl,O.o.i.beside fun i y=> .inl y,O.o.stay⟩))
       clear C;go_wp2_with fail;go_ret;exact HE.o
end
end
section
open Go.RowKit
theorem z1k : ∀{a b:List En},q1C a->q1C b->(∀x∈a,x∈b)->a.Sublist b
 |[],b,_,_,_=>List.nil_sublist b
 |x::a,[],_,_,h=>absurd (h x (.head _)) (by simp)
 | x :: a,y::b,ha,hb,h=>by
  obtain⟨h1,h2⟩:=List.pairwise_cons.1 ha;obtain⟨h3,h4⟩:=List.pairwise_cons.1 hb;rcases List.mem_cons.1 (h x (.head _)) with e|q
  ·subst e
   refine(z1k h2 h4 fun z i=>?_).cons_cons x;rcases List.mem_cons.1 (h z (.tail _ i)) with e|d
   ·have:=h1 z i
    rw[e,q0h] at this;cases this
   ·exact d
  ·refine(z1k ha h4 fun z i=>?_).cons y
   rcases List.mem_cons.1 (h z i) with e|d
   ·rcases List.mem_cons.1 i with r|j
    ·rw[r];exact q
    ·have o:=h1 z j
     have C:=h3 x q;rw[e] at o;have:=q1e o C;rw[q0h] at this;cases this
   ·exact d
theorem q5O{a b:List En}(d:q1C a)(i:q1C b)(h: ∀x∈a,x∈b):a.length<=b.length:=(z1k d i h).length_le
def TL(st:IxSt)(n:Int):List En:=match st.t n with|some e=>e.L|none=>[]
theorem q2v{st:IxSt}(h:st.t n=some e):TL st n=e.L:=by unfold TL;rw[h]
structure PInv(st:IxSt)(σ:DM)(c s:Int)(φ:Fls)(u cnt:Nat)(B:List En):Prop where
 fl:Fl σ c s φ u cnt
 man:st.m.ok
 full:st.full
 tb: ∀n e,st.t n=some e->n∈st.m.L.flatten/\φ (q0C 116 n)=some (q2d e.L)/\(∃y,φ (q0C 98 n)=some y)/\okM e.L/\ ∀x∈e.L,e.may x.1=true
 only: ∀nm,φ nm≠none->nm=mapN\/(∃n∈st.m.L.flatten,nm=q0C 116 n\/nm=q0C 98 n)\/ ∃k:Nat,k<=999999/\nm=q0C 99 (k:Int)
 okw:okM st.w
 okB:okM B
 mem: ∀x,x∈B↔x∈st.w\/ ∃n e,st.t n=some e/\x∈e.L
section
variable {st :IxSt}{σ σ':DM}{c s:Int}{φ:Fls}{u cnt:Nat}{B:List En}
theorem PInv.grow(h:PInv st σ c s φ u cnt B):GrowI st.m.L st.m.nx.toNat:=by
 have i:=Man.bounds h.man;have d:=h.man.1;unfold q0c at d;simp only[Ξ] at d;exact⟨d.1.2,fun x j=>by have:=i.2.2.2.1 x j;omega⟩
theorem PInv.range(h:PInv st σ c s φ u cnt B)(i:n∈st.m.L.flatten):0<=n/\n<=999999/\n<st.m.nx:=by
 have d:=Man.bounds h.man;have:=d.2.2.2.1 n i;omega
theorem PInv.tell(h:PInv st σ c s φ u cnt B)(k:Nat):PInv st (tellN k σ) c s φ u cnt B:=⟨Fl.tells k h.fl,h.man,h.full,h.tb,h.only,h.okw,h.okB,h.mem⟩
theorem PInv.mono(h:PInv st σ c s φ u cnt B)(h1:u<=u')(h2:cnt<=cnt'):PInv st σ c s φ u' cnt' B:=⟨h.fl.mono h1 h2,h.man,h.full,h.tb,h.only,h.okw,h.okB,h.mem⟩
theorem PInv.wlen(h:PInv st σ c s φ u cnt B):st.w.length<=B.length:=q5O h.okw.sort h.okB.sort fun x d=>(h.mem x).2 (.inl d)
theorem PInv.tlen(h:PInv st σ c s φ u cnt B)(he:st.t n=some e):e.L.length<=B.length:=q5O (h.tb n e he).2.2.2.1.sort h.okB.sort fun x d=>(h.mem x).2 (.inr ⟨n,e,he,d⟩)
theorem PInv.wl(h:PInv st σ c s φ u cnt B)(he:st.t n=some e):Wl σ n e.L:=h.fl.wl (h.tb n e he).2.1
theorem PInv.add(h:PInv st σ c s φ u cnt B){x:En}(d:q3Q x=true)(i:B.length<50000):PInv {st with w:=q4L x st.w} σ c s φ u cnt (q4L x B):=by
 have j:=h.wlen;refine⟨h.fl,h.man,h.full,h.tb,h.only,h.okw.add d (by omega),h.okB.add d i,fun y=>?_⟩;show y∈q4L x B↔y∈q4L x st.w\/_;rw[mem_addE,mem_addE,h.mem y]
 constructor
 ·rintro(h1|h1|h1)
  ·exact .inl (.inl h1)
  ·exact .inl (.inr h1)
  ·exact .inr h1
 ·rintro((h1|h1)|h1)
  ·exact .inl h1
  ·exact .inr (.inl h1)
  ·exact .inr (.inr h1)
theorem z2z(h:PInv st σ c s φ u cnt B)(x a b:Int): ∀(ns:List Int) (acc:List (List En)) (k0:Nat),(∀n∈ns,n∈st.m.L.flatten)->
  ∃k,q4J st x (max a 0) (min b 1073741824) (tellN k0 σ) ns acc=(acc++ns.map (fun n=>q1B (TL st n) x (max a 0) (min b 1073741824)),0,tellN k σ)
 |[],acc,k0,_=>⟨k0,by rw[q4J];simp⟩
 | n::ns,acc,k0,hn=>by
  obtain⟨e,he⟩:=h.full n (hn n (by simp));have d:=h.tb n e he;obtain⟨k,_,_,i⟩:=z9M ((h.wl he).tellN k0) d.2.2.2.1.sort d.2.2.2.1.ok d.2.2.2.2 x (max a 0) (min b 1073741824);rw[show max (max a 0) 0=max a 0 by omega,show min (min b 1073741824) 1073741824=min b 1073741824 by omega,q3w] at i;obtain⟨o,h2⟩:=z2z h x a b ns (acc++[q1B e.L x (max a 0) (min b 1073741824)]) (k0+k) (fun y j=>hn y (by simp[j]));refine⟨o,?_⟩;rw[q4J,he];simp only;rw[i];simp only;rw[κ (fun h=>h rfl),h2,List.map_cons,q2v he,List.append_assoc]
  rfl
theorem z7S(h:PInv st σ c s φ u cnt B): ∀(ns:List Int) (acc:List (List En)) (k0:Nat),(∀n∈ns,n∈st.m.L.flatten)-> ∃k,q7E (tellN k0 σ) ns acc=(acc++ns.map (TL st),0,tellN k σ)
 |[],acc,k0,_=>⟨k0,by rw[q7E];simp⟩
 | n::ns,acc,k0,hn=>by
  obtain⟨e,he⟩:=h.full n (hn n (by simp));have d:=h.tb n e he;have i:=y2F ((h.wl he).tellN k0) d.2.2.2.1.sort d.2.2.2.1.ok (by have:=d.2.2.2.1.len;omega);rw[q9a] at i;obtain⟨o,h2⟩:=z7S h ns (acc++[e.L]) (k0+1) (fun y j=>hn y (by simp[j]));refine⟨o,?_⟩;rw[q7E,i];simp only;rw[κ (fun h=>h rfl),h2,List.map_cons,q2v he,List.append_assoc]
  rfl
theorem mem_range{L:List En}{x a b:Int}{y:En}:y∈q1B L x a b↔y∈L/\y.1=x/\a<=y.2.1/\y.2.1<=b:=by
 unfold q1B;rw[List.mem_filter];simp only[Ξ,Φ]
 constructor
 ·rintro⟨h1,⟨h2,h3⟩,h4⟩;exact⟨h1,h2,h3,h4⟩
 ·rintro⟨h1,h2,h3,h4⟩;exact⟨h1,⟨h2,h3⟩,h4⟩
theorem q5X{L:List En}(h:q1C L)(x a b:Int):q1C (q1B L x a b):=h.filter _
theorem z1j(h:PInv st σ c s φ u cnt B)(n:Int):q1C (TL st n)/\(∀x∈TL st n,q3Q x=true)/\(TL st n).length<=B.length:=by
 unfold TL
 cases he:st.t n with
 |none=>exact⟨List.Pairwise.nil,fun x d=>by simp at d,υ _⟩
 |some e=>exact⟨(h.tb n e he).2.2.2.1.sort,(h.tb n e he).2.2.2.1.ok,h.tlen he⟩
theorem z5P{L:List (List En)}(h: ∀l∈L,l.length<=k):L.flatten.length<=L.length*k:=by
 induction L with
 |nil=>simp
 | cons a r ih=>
  rw[List.flatten_cons,θ,χ,Nat.add_mul];have h1:=h a (by simp);have h2:=ih fun l d=>h l (by simp[d])
  omega
theorem PInv.rangeIs(h:PInv st σ c s φ u cnt B)(x a b:Int): ∃k R,q4J st x (max a 0) (min b 1073741824) σ st.m.L.flatten [q1B st.w x (max a 0) (min b 1073741824)]=(R,0,tellN k σ)/\(∀L∈R,q1C L)/\R.flatten.length<=41*B.length/\q1W R=q1B B x (max a 0) (min b 1073741824):=by
 obtain⟨k,e⟩:=z2z h x a b st.m.L.flatten [q1B st.w x (max a 0) (min b 1073741824)] 0 (fun n j=>j);have o: ∀L∈[q1B st.w x (max a 0) (min b 1073741824)]++st.m.L.flatten.map (fun n=>q1B (TL st n) x (max a 0) (min b 1073741824)),q1C L/\L.length<=B.length:=fun L d=>by
  rcases List.mem_append.1 d with d|d
  ·rw[List.mem_singleton.1 d]
   exact⟨q5X h.okw.sort _ _ _,Ω (List.length_filter_le _ _) h.wlen⟩
  ·obtain⟨n,j,rfl⟩:=List.mem_map.1 d
   have:=z1j h n;exact⟨q5X this.1 _ _ _,Ω (List.length_filter_le _ _) this.2.2⟩
 refine⟨k,_,e,fun L d=>(o L d).1,?_,?_⟩
 ·have h1:=z5P fun l q=>(o l q).2
  rw[θ,List.length_map] at h1;have h2:=(Man.bounds h.man).2.1;simp only[χ,List.length_nil] at h1;have:(0+1+st.m.L.flatten.length)*B.length<=41*B.length:=Nat.mul_le_mul_right _ (by omega);omega
 ·refine q7V (q5c _) (q5X h.okB.sort _ _ _) fun y=>?_
  rw[mem_union,mem_range,h.mem y]
  constructor
  ·rintro⟨L,d,i⟩
   rcases List.mem_append.1 d with d|d
   ·rw[List.mem_singleton.1 d,mem_range] at i
    exact⟨.inl i.1,i.2⟩
   ·obtain⟨n,j,rfl⟩:=List.mem_map.1 d
    rw[mem_range] at i;obtain⟨e,he⟩:=h.full n j;rw[q2v he] at i;exact⟨.inr ⟨n,e,he,i.1⟩,i.2⟩
  ·rintro⟨h1|⟨n,e,he,h1⟩,h2⟩
   ·exact⟨_,List.mem_append.2 (.inl (List.mem_singleton.2 rfl)),mem_range.2 ⟨h1,h2⟩⟩
   ·exact⟨_,List.mem_append.2 (.inr (List.mem_map.2 ⟨n,(h.tb n e he).1,rfl⟩)),mem_range.2 ⟨by rw[q2v he];exact h1,h2⟩⟩
end
theorem q1x{c d:UInt8}(hc:q2O c=true)(i:q2O d=true){m:Int}(j:0<=n/\n<=999999)(hm:0<=m/\m<=999999)(h:q0C c n=q0C d m):c=d/\n=m:=by
 have h1:=q2Y hc j;rw[h,q2Y i hm] at h1;injection h1 with h1 h2;injection h2 with h2 _;exact⟨h1.symm,by omega⟩
theorem q9E :q2O 116=true:=by decide
theorem z9q :q2O 98=true:=by decide
theorem y2o :q2O 99=true:=by decide
theorem q3h(d:k<=999999):q0C 99 (k:Int)≠mapN/\q0C 99 (k:Int)≠q2t:=by
 rw[q0X (by omega)];exact⟨fun e=>absurd (List.cons.inj e).1 (by decide),fun e=>absurd (List.cons.inj e).1 (by decide)⟩
theorem q3c{c:UInt8}(hc:c=116\/c=98)(d:0<=n/\n<=999999):q0C c n≠mapN/\q0C c n≠q2t:=by
 rw[q0X d];rcases hc with rfl|rfl
 ·exact⟨fun e=>absurd (List.cons.inj e).1 (by decide),fun e=>absurd (List.cons.inj e).1 (by decide)⟩
 ·exact⟨fun e=>absurd (List.cons.inj e).1 (by decide),fun e=>absurd (List.cons.inj e).1 (by decide)⟩
section
variable {st :IxSt}{σ σ':DM}{c s:Int}{φ:Fls}{u cnt:Nat}{B:List En}
theorem PInv.fresh(h:PInv st σ c s φ u cnt B)(i:0<=n/\n<=999999)(o:n∉st.m.L.flatten):φ (q0C 116 n)=none/\φ (q0C 98 n)=none:=by
 have q: ∀d:UInt8,d=116\/d=98->φ (q0C d n)=none:=fun d hc=>by
  cases he:φ (q0C d n) with
  |none=>rfl
  | some y=>
   exfalso
   have j:q2O d=true:=by rcases hc with rfl|rfl<;>decide
   rcases h.only (q0C d n) (by rw[he];simp) with e|⟨m,hm,e|e⟩|⟨k,D,e⟩
   ·exact(q3c hc i).1 e
   ·have C:=h.range hm
    exact o ((q1x j q9E i (by omega) e).2▸hm)
   ·have C:=h.range hm
    exact o ((q1x j z9q i (by omega) e).2▸hm)
   ·have r:=(q1x j y2o i (by omega) e).1
    rcases hc with rfl|rfl<;>exact absurd r (by decide)
 exact⟨q 116 (.inl rfl),q 98 (.inr rfl)⟩
theorem PInv.noNew(h:PInv st σ c s φ u cnt B):φ q2t=none:=by
 cases he:φ q2t with
 |none=>rfl
 | some y=>
  exfalso
  rcases h.only q2t (by rw[he];simp) with e|⟨m,hm,e|e⟩|⟨k,d,e⟩
  ·exact new_ne_map e
  ·have i:=h.range hm
   exact(q3c (.inl rfl) (show 0<=m/\m<=999999 by omega)).2 e.symm
  ·have i:=h.range hm
   exact(q3c (.inr rfl) (show 0<=m/\m<=999999 by omega)).2 e.symm
  ·exact(q3h d).2 e.symm
def q4k(φ:Fls)(n:Int)(f tab S:List UInt8):Fls:=q6t (q6t (q6t φ (q0C 98 n) f) (q0C 116 n) tab) mapN S
theorem z3S(φ:Fls)(d:0<=n/\n<=999999)(f tab S:List UInt8):q4k φ n f tab S (q0C 116 n)=some tab/\q4k φ n f tab S (q0C 98 n)=some f:=by
 unfold q4k q6t;refine⟨?_,?_⟩
 ·simp[(q3c (.inl rfl) d).1]
 ·simp[(q3c (.inr rfl) d).1,(q3r n n d d).symm]
theorem q9f(φ:Fls){m:Int}(i:0<=n/\n<=999999)(hm:0<=m/\m<=999999)(d:m≠n)(f tab S:List UInt8):q4k φ n f tab S (q0C 116 m)=φ (q0C 116 m)/\q4k φ n f tab S (q0C 98 m)=φ (q0C 98 m):=by
 unfold q4k q6t;rw[κ (q3c (.inl rfl) hm).1,κ (fun e=>d (q1x q9E q9E hm i e).2),κ (q3r m n hm i),κ (q3c (.inr rfl) hm).1,κ (fun e=>(q3r n m i hm) e.symm),κ (fun e=>d (q1x z9q z9q hm i e).2)];exact⟨rfl,rfl⟩
theorem z0m{φ:Fls}{tab S nm:List UInt8}(h:q4k φ n f tab S nm≠none):nm=mapN\/nm=q0C 116 n\/nm=q0C 98 n\/φ nm≠none:=by
 unfold q4k q6t at h;by_cases h1:nm=mapN
 ·exact .inl h1
 ·rw [κ h1] at h
  by_cases h2:nm=q0C 116 n
  ·exact .inr (.inl h2)
  ·rw [κ h2] at h
   by_cases h3:nm=q0C 98 n
   ·exact .inr (.inr (.inl h3))
   ·rw[κ h3] at h
    exact .inr (.inr (.inr h))
theorem PInv.flush(h:PInv st σ c s φ u cnt B)(N:addS st.m.L st.m.nx=(L2,0))(G:0<=en/\en<=2147483647)(a0:st.m.nx<1000000)(O:cnt<397):
  (∃ σ',q2T σ (st.m.add L2 en) st.m.nx st.w f=(0,some st.w,σ')/\ ∀b may,(∀x∈st.w,may x.1=true)->
   PInv {st.put (st.m.add L2 en) st.m.nx ⟨b,st.w,may⟩ with w:=[]} σ' c s (q4k φ st.m.nx f (q2d st.w) (st.m.add L2 en).S) (u+f.length+(q2d st.w).length+300) (cnt+3) B)\/
   ∃σ',q2T σ (st.m.add L2 en) st.m.nx st.w f=(60,none,σ')/\PInv st σ' c s φ (u+f.length+(q2d st.w).length+300) (cnt+3) B/\c-(u:Int)-((q2d st.w).length:Int)-(f.length:Int)-300<6000:=by
 have hb:=Man.bounds h.man;have o:0<=st.m.nx/\st.m.nx<=999999:=by omega
 obtain⟨a1,a2,J,q,a5⟩:=z4q (L:=st.m.L) (x:=st.m.nx) (by rw[N]);rw[N] at J q;simp only at J q;have Z:=h.grow;have j:((st.m.nx.toNat:Nat):Int)=st.m.nx:=by omega
 have E:st.m.L.flatten.length<40:=by
  rcases Nat.lt_or_ge st.m.L.flatten.length 40 with h1|h1
  ·exact h1
  ·have h2:=Z.addS
   rw[j,ξ h1,N] at h2;injection h2 with _ h2
   cases h2
 have D:=(Z.add E).1;rw[j,<-J] at D;have I:q0c (st.m.add L2 en).nx (st.m.add L2 en).ck (st.m.add L2 en).L=true:=by
  unfold q0c Man.add;simp only[Ξ,Φ,List.all_eq_true];exact⟨⟨⟨by omega,by omega,G.1,G.2⟩,D.1⟩,fun x U=>by have:=D.2 x U;push_cast at this;omega⟩
 obtain⟨f1,f2⟩:=h.fresh o a1;rcases h.fl.turn (m:=st.m.add L2 en) I o h.okw.sort ((q2o _).2 h.okw.sort) h.okw.ok h.okw.len (f:=f) f1 f2 h.noNew O with⟨σ',e,C⟩|⟨σ',e,C,hr⟩
 case inr=>exact .inr ⟨σ',e,⟨C,h.man,h.full,h.tb,h.only,h.okw,h.okB,h.mem⟩,hr⟩
 refine .inl ⟨σ',e,fun b may R=>⟨C,⟨I,h.man.2⟩,fun x U=>?_,fun n i he=>?_,fun nm Q=>?_,okM.nil,h.okB,fun x=>?_⟩⟩
 ·exact(IxSt.put_full (m:=st.m.add L2 en) (n:=st.m.nx) (e:=⟨b,st.w,may⟩) h.full (fun y hy=>((q y).1 hy).symm)) x U
 ·unfold IxSt.put at he
  simp only at he;by_cases d:n=st.m.nx
  ·rw[ξ d] at he
   injection he with he;subst he;subst d;obtain⟨X,t2⟩:=z3S φ o f (q2d st.w) (st.m.add L2 en).S;exact⟨(q _).2 (.inr rfl),X,⟨_,t2⟩,h.okw,R⟩
  ·rw[κ d] at he
   obtain⟨t0,X,⟨y,t2⟩,t3,t4⟩:=h.tb n i he;have b0:=h.range t0;obtain⟨o1,o2⟩:=q9f φ o (m:=n) (by omega) d f (q2d st.w) (st.m.add L2 en).S;exact⟨(q n).2 (.inl t0),by rw[o1];exact X,⟨y,by rw[o2];exact t2⟩,t3,t4⟩
 ·rcases z0m Q with r|r|r|r
  ·exact .inl r
  ·exact .inr (.inl ⟨st.m.nx,(q _).2 (.inr rfl),.inl r⟩)
  ·exact .inr (.inl ⟨st.m.nx,(q _).2 (.inr rfl),.inr r⟩)
  ·rcases h.only nm r with i|⟨n,hn,i⟩|i
   ·exact .inl i
   ·exact .inr (.inl ⟨n,(q n).2 (.inl hn),i⟩)
   ·exact .inr (.inr i)
 ·rw [h.mem x]
  unfold IxSt.put;simp only
  constructor
  ·rintro(h1|⟨n,i,he,h1⟩)
   ·exact .inr ⟨st.m.nx,_,ξ rfl,h1⟩
   ·have d:n≠st.m.nx:=fun e3=>by
     have:=h.range (h.tb n i he).1;omega
    exact .inr ⟨n,i,by rw[κ d];exact he,h1⟩
  ·rintro(h1|⟨n,i,he,h1⟩)
   ·cases h1
   ·by_cases d:n=st.m.nx
    ·rw[ξ d] at he
     injection he with he;subst he;exact .inl h1
    ·rw[κ d] at he
     exact .inr ⟨n,i,he,h1⟩
def q8k(φ:Fls):List Int->Fls
 |[]=>φ
 |n::ns=>q8k (q8g (q8g φ (q0C 116 n)) (q0C 98 n)) ns
theorem q4N(nm:List UInt8): ∀(ns:List Int) (φ:Fls),(∀n∈ns,nm≠q0C 116 n/\nm≠q0C 98 n)->q8k φ ns nm=φ nm
 |[],φ,_=>rfl
 | n::ns,φ,h=>by
  rw[q8k,q4N nm ns _ fun m hm=>h m (by simp[hm])];unfold q8g;rw[κ (h n (by simp)).2,κ (h n (by simp)).1]
theorem z0H(nm:List UInt8): ∀(ns:List Int) (φ:Fls),q8k φ ns nm≠none->φ nm≠none/\ ∀n∈ns,nm≠q0C 116 n/\nm≠q0C 98 n
 |[],φ,h=>⟨h,fun n j=>by cases j⟩
 | n :: ns,φ,h=>by
  rw[q8k] at h;obtain⟨h1,h2⟩:=z0H nm ns _ h;unfold q8g at h1;by_cases d:nm=q0C 98 n
  ·rw[ξ d] at h1;exact absurd rfl h1
  ·rw [κ d] at h1
   by_cases i:nm=q0C 116 n
   ·rw[ξ i] at h1;exact absurd rfl h1
   ·rw[κ i] at h1
    refine⟨h1,fun m hm=>?_⟩;rcases List.mem_cons.1 hm with e|hm
    ·subst e;exact⟨i,d⟩
    ·exact h2 m hm
theorem Fl.drops : ∀(ns:List Int) {σ:DM} {φ:Fls},Fl σ c s φ u cnt->ns.Nodup->(∀n∈ns,(0<=n/\n<=999999)/\(∃x,φ (q0C 116 n)=some x)/\ ∃y,φ (q0C 98 n)=some y)-> ∃σ',q3l σ ns=(0,σ')/\Fl σ' c s (q8k φ ns) u cnt
 |[],σ,φ,h,_,_=>⟨σ,rfl,h⟩
 | n :: ns,σ,φ,h,hnd,hh=>by
  obtain⟨o,q⟩:=List.nodup_cons.1 hnd;obtain⟨i,⟨x,I⟩,⟨y,J⟩⟩:=hh n (by simp);obtain⟨σ1,E,N⟩:=h.drop i I J;obtain⟨D,G,O⟩:=Fl.drops ns N q fun m hm=>by
   obtain⟨d,⟨Q,r⟩,⟨R,C⟩⟩:=hh m (by simp[hm]);have j:m≠n:=fun e=>o (e▸hm)
   refine⟨d,⟨Q,?_⟩,⟨R,?_⟩⟩
   ·unfold q8g
    rw[κ (q3r m n d i),κ (fun e=>j (q1x q9E q9E d i e).2)];exact r
   ·unfold q8g
    rw[κ (fun e=>j (q1x z9q z9q d i e).2),κ (fun e=>(q3r n m i d) e.symm)];exact C
  refine⟨D,?_,O⟩;rw[q3l,E];simp only;rw[κ (fun h=>h rfl)];exact G
end
section
variable {st :IxSt}{σ σ':DM}{c s:Int}{φ:Fls}{u cnt:Nat}{B:List En}
theorem PInv.unionLe(h:PInv st σ c s φ u cnt B)(ns:List Int):okM (q1W (ns.map (TL st)))/\(q1W (ns.map (TL st))).length<=B.length/\ ∀x∈q1W (ns.map (TL st)),x∈B:=by
 have hm: ∀x∈q1W (ns.map (TL st)),x∈B:=fun x i=>by
  obtain⟨L,j,d⟩:=mem_union.1 i;obtain⟨n,q,rfl⟩:=List.mem_map.1 j;unfold TL at d
  cases he:st.t n with
  |none=>rw[he] at d;simp at d
  |some e=>rw[he] at d;exact(h.mem x).2 (.inr ⟨n,e,he,d⟩)
 have o:=q5O (q5c (ns.map (TL st))) h.okB.sort hm;exact⟨⟨q5c _,fun x i=>h.okB.ok x (hm x i),by have:=h.okB.len;omega⟩,o,hm⟩
theorem PInv.merge(h:PInv st σ c s φ u cnt B){d:List Int}(hp:q1E st.m.L lv=(d,0))(f0:q0U st.m.L lv st.m.nx=(L2,0)){U:List En}(hU:q1W (d.map (TL st))=U)
  (m0:st.m.nx<1000000)(h0:cnt<397):
  (∃ σ1 Q,q2T σ (st.m.add L2 st.m.ck) st.m.nx U f=(0,some U,σ1)/\q3l σ1 d=(0,Q)/\ ∀b may,(∀x∈U,may x.1=true)->
   PInv ((st.put (st.m.add L2 st.m.ck) st.m.nx ⟨b,U,may⟩).del d) Q c s (q8k (q4k φ st.m.nx f (q2d U) (st.m.add L2 st.m.ck).S) d) (u+f.length+(q2d U).length+300) (cnt+3) B)\/
   ∃σ1,q2T σ (st.m.add L2 st.m.ck) st.m.nx U f=(60,none,σ1)/\PInv st σ1 c s φ (u+f.length+(q2d U).length+300) (cnt+3) B/\c-(u:Int)-((q2d U).length:Int)-(f.length:Int)-300<6000:=by
 have hb:=Man.bounds h.man;have E:0<=st.m.nx/\st.m.nx<=999999:=by omega
 obtain⟨p1,p2,p3,p4,p5⟩:=q6D (L:=st.m.L) (lv:=lv) (by rw[hp]);rw[hp] at p5;simp only at p5;obtain⟨_,r2,r3⟩:=q5q f0;have r:=(q7r f0).1;rw[hp] at r;simp only at r;have X:((st.m.nx.toNat:Nat):Int)=st.m.nx:=by omega
 have N:st.m.nx∉st.m.L.flatten:=fun e=>r2 (.inr e)
 have hg:=(h.grow.rep (k:=lv.toNat) (by omega) p4).1;rw[X,<-r3] at hg;have e0:(st.m.L.flatten++[st.m.nx]).Nodup:=by
  rw[List.nodup_append];refine⟨hb.2.2.2.2.2.2.1,by simp,fun a ha b g0=>?_⟩;rw[List.mem_singleton.1 g0];intro e;exact N (e▸ha)
 have d0:=r.nodup_iff.2 e0;obtain⟨o0,k0,l0⟩:=List.nodup_append.1 d0;have D: ∀y∈d,y∈st.m.L.flatten:=fun y C=>by
  rw[p5] at C;rcases Nat.lt_or_ge lv.toNat st.m.L.length with hl|hl
  ·rw[δ,γ hl] at C
   exact List.mem_flatten.2 ⟨_,List.getElem_mem hl,C⟩
  ·rw[δ,List.getElem?_eq_none hl] at C
   cases C
 have j: ∀y,y∈L2.flatten↔(y∈st.m.L.flatten/\y∉d)\/y=st.m.nx:=fun y=>by
  have hm:=r.mem_iff (a:=y);rw[List.mem_append,List.mem_append,Γ] at hm
  constructor
  ·intro C
   have i:y∉d:=fun e=>l0 y C y e rfl
   rcases hm.1 (.inl C) with h1|h1
   ·exact .inl ⟨h1,i⟩
   ·exact .inr h1
  ·rintro(⟨h1,h2⟩|h1)
   ·rcases hm.2 (.inl h1) with h3|h3
    ·exact h3
    ·exact absurd h3 h2
   ·rcases hm.2 (.inr h1) with h3|h3
    ·exact h3
    ·exact absurd (D y h3) (by rw[h1];exact N)
 have c0:q0c (st.m.add L2 st.m.ck).nx (st.m.add L2 st.m.ck).ck (st.m.add L2 st.m.ck).L=true:=by
  unfold q0c Man.add;simp only[Ξ,Φ,List.all_eq_true];exact⟨⟨⟨by omega,by omega,by omega,by omega⟩,hg.1⟩,fun x hx=>by have:=hg.2 x hx;push_cast at this;omega⟩
 obtain⟨f1,f2⟩:=h.fresh E N;obtain⟨ou,_,a0⟩:=h.unionLe d;rw[hU] at ou a0;rcases h.fl.turn (m:=st.m.add L2 st.m.ck) c0 E ou.sort ((q2o _).2 ou.sort) ou.ok ou.len (f:=f) f1 f2 h.noNew h0 with⟨σ1,e1,Z⟩|⟨σ1,e1,Z,hr⟩
 case inr=>exact .inr ⟨σ1,e1,⟨Z,h.man,h.full,h.tb,h.only,h.okw,h.okB,h.mem⟩,hr⟩
 have o: ∀y∈d,(0<=y/\y<=999999)/\y≠st.m.nx:=fun y C=>by
  have:=h.range (D y C);omega
 obtain⟨Q,e2,b0⟩:=Fl.drops d Z k0 (fun n J=>by
  obtain⟨e,he⟩:=h.full n (D n J);obtain⟨t0,t1,⟨y,t2⟩,_⟩:=h.tb n e he;obtain⟨o1,o2⟩:=q9f φ E (o n J).1 (o n J).2 f (q2d U) (st.m.add L2 st.m.ck).S
  exact⟨(o n J).1,⟨_,o1.trans t1⟩,⟨y,o2.trans t2⟩⟩)
 have I: ∀n,(0<=n/\n<=999999)->n∉d->q8k (q4k φ st.m.nx f (q2d U) (st.m.add L2 st.m.ck).S) d (q0C 116 n)=q4k φ st.m.nx f (q2d U) (st.m.add L2 st.m.ck).S (q0C 116 n)/\
   q8k (q4k φ st.m.nx f (q2d U) (st.m.add L2 st.m.ck).S) d (q0C 98 n)=q4k φ st.m.nx f (q2d U) (st.m.add L2 st.m.ck).S (q0C 98 n):=fun n J i=>by
  constructor
  ·exact q4N _ d _ fun y C=>⟨fun e=>i ((q1x q9E q9E J (o y C).1 e).2▸C),q3r n y J (o y C).1⟩
  ·exact q4N _ d _ fun y C=>⟨fun e=>q3r y n (o y C).1 J e.symm,fun e=>i ((q1x z9q z9q J (o y C).1 e).2▸C)⟩
 have R:st.m.nx∉d:=fun e=>(o _ e).2 rfl
 refine .inl ⟨σ1,Q,e1,e2,fun b may j0=>⟨b0,⟨c0,h.man.2⟩,fun x hx=>?_,fun n e3 he=>?_,fun nm i0=>?_,h.okw,h.okB,fun x=>?_⟩⟩
 ·unfold IxSt.del IxSt.put
  simp only;rcases(j x).1 hx with⟨h1,h2⟩|h1
  ·obtain⟨e,he⟩:=h.full x h1
   refine⟨e,?_⟩;rw[κ h2,κ (fun G:x=st.m.nx=>N (G▸h1))];exact he
  ·exact⟨_,by rw[κ (h1▸R),ξ h1]⟩
 ·unfold IxSt.del IxSt.put at he
  simp only at he;by_cases i:n∈d
  ·rw[ξ i] at he;cases he
  ·rw [κ i] at he
   by_cases q:n=st.m.nx
   ·rw[ξ q] at he
    injection he with he;subst he;subst q;obtain⟨k1,k2⟩:=I st.m.nx E i;obtain⟨t1,t2⟩:=z3S φ E f (q2d U) (st.m.add L2 st.m.ck).S;exact⟨(j _).2 (.inr rfl),k1.trans t1,⟨_,k2.trans t2⟩,ou,j0⟩
   ·rw[κ q] at he
    obtain⟨t0,t1,⟨y,t2⟩,t3,t4⟩:=h.tb n e3 he;have n0:=h.range t0;obtain⟨k1,k2⟩:=I n (by omega) i;obtain⟨o1,o2⟩:=q9f φ E (m:=n) (by omega) q f (q2d U) (st.m.add L2 st.m.ck).S;exact⟨(j n).2 (.inl ⟨t0,i⟩),k1.trans (o1.trans t1),⟨y,k2.trans (o2.trans t2)⟩,t3,t4⟩
 ·obtain⟨d1,d2⟩:=z0H nm d _ i0
  rcases z0m d1 with G|G|G|G
  ·exact .inl G
  ·exact .inr (.inl ⟨st.m.nx,(j _).2 (.inr rfl),.inl G⟩)
  ·exact .inr (.inl ⟨st.m.nx,(j _).2 (.inr rfl),.inr G⟩)
  ·rcases h.only nm G with O|⟨n,J,O⟩|O
   ·exact .inl O
   ·have i:n∉d:=fun e6=>by
     rcases O with O|O
     ·exact(d2 n e6).1 O
     ·exact(d2 n e6).2 O
    exact .inr (.inl ⟨n,(j n).2 (.inl ⟨J,i⟩),O⟩)
   ·exact .inr (.inr O)
 ·rw [h.mem x]
  unfold IxSt.del IxSt.put;simp only
  constructor
  ·rintro(h1|⟨n,e3,he,h1⟩)
   ·exact .inl h1
   ·by_cases i:n∈d
    ·refine .inr ⟨st.m.nx,_,by rw[κ R,ξ rfl],?_⟩
     show x∈U;rw[<-hU,mem_union];exact⟨TL st n,List.mem_map.2 ⟨n,i,rfl⟩,by rw[q2v he];exact h1⟩
    ·have q:n≠st.m.nx:=fun G=>N (G▸(h.tb n e3 he).1)
     exact .inr ⟨n,e3,by rw[κ i,κ q];exact he,h1⟩
  ·rintro(h1|⟨n,e3,he,h1⟩)
   ·exact .inl h1
   ·by_cases i:n∈d
    ·rw[ξ i] at he;cases he
    ·rw [κ i] at he
     by_cases q:n=st.m.nx
     ·rw[ξ q] at he
      injection he with he;subst he;have:=a0 x h1;exact(h.mem x).1 this
     ·rw[κ q] at he
      exact .inr ⟨n,e3,he,h1⟩
def z4l(B:List En)(x u r:Int):Prop:=(∀y∈B,y.1=x->y.2.1<=u->y.2.1<=r)/\((r= -1)\/ ∃y∈B,y.1=x/\y.2.1<=u/\y.2.1=r)
theorem q8K{L:List En}(C:q1C L)(x u:Int):z4l L x u (z7M L x u):=by
 unfold z7M q3b
 cases hl:(L.filter (inE x u)).getLast? with
 | none=>
  have:=List.getLast?_eq_none_iff.1 hl;refine⟨fun y r h1 h2=>?_,.inl rfl⟩;have:y∈L.filter (inE x u):=List.mem_filter.2 ⟨r,by unfold inE;simp[h1,h2]⟩;rw[List.getLast?_eq_none_iff.1 hl] at this
  cases this
 | some e=>
  have q:=List.mem_of_getLast? hl;obtain⟨D,j⟩:=List.mem_filter.1 q;unfold inE at j;simp only[Ξ,Φ] at j;refine⟨fun y r h1 h2=>?_,.inr ⟨e,D,j.1,j.2,rfl⟩⟩;have i:y∈L.filter (inE x u):=List.mem_filter.2 ⟨r,by unfold inE;simp[h1,h2]⟩;have d:q1C (L.filter (inE x u)):=C.filter _;obtain⟨l,o⟩:=List.getLast?_eq_some_iff.1 hl;rw[o] at i d;rcases List.mem_append.1 i with h3|h3
  ·have h4:=(List.pairwise_append.1 d).2.2 y h3 e (by simp)
   rw[lessE_iff] at h4;show y.2.1<=e.2.1;omega
  ·rw[List.mem_singleton.1 h3];exact Int.le_refl _
end
structure To where
 s:List UInt8
 v:Int
 e:Ev
def to0 :To:=⟨[],0,ev0⟩
def q5W(s:List UInt8):Nat->List Ev->List To
 |_,[]=>[]
 |i,e::r=>⟨s,(i:Int),e⟩::q5W s (i+1) r
def y4n(b:Bt):List To:=q5W b.st b.fi b.ev
def tos(bs:List Bt):List To:=(bs.map y4n).flatten
def q0y(bs:List Bt)(s:List UInt8):List Ev:=((bs.filter fun b=>decide (b.st=s)).map Bt.ev).flatten
def z9Y(bs:List Bt)(s:List UInt8):List To:=q5W s 0 (q0y bs s)
def okBs(bs:List Bt):Prop:= ∀l b r,bs=l++b::r->z4K b/\b.fi=(q0y l b.st).length
theorem q9U{α:Type}{P:List α->Prop}(h0:P [])(h1: ∀l a,P l->P (l++[a]))(l:List α):P l:=by
 have h : ∀n,∀l:List α,l.length=n->P l:=fun n=>by
  induction n with
  |zero=>intro l hl;rw[List.length_eq_zero_iff.1 hl];exact h0
  | succ n ih=>
   intro l hl;rcases List.eq_nil_or_concat l with e|⟨m,a,e⟩
   ·rw[e] at hl;simp at hl
   ·rw[List.concat_eq_append] at e
    subst e;exact h1 m a (ih m (by simpa using hl))
 exact h _ l rfl
theorem q3s(s:List UInt8): ∀(L:List Ev) (i:Nat),(q5W s i L).length=L.length
 |[],_=>rfl
 |e::r,i=>by rw[q5W,χ,q3s s r,χ]
theorem q4f(s:List UInt8): ∀(a b:List Ev) (i:Nat),q5W s i (a++b)=q5W s i a++q5W s (i+a.length) b
 |[],b,i=>rfl
 | e::r,b,i=>by
  rw[List.cons_append,q5W,q4f s r b,q5W,List.cons_append,χ]
  congr 3;omega
theorem numT_mem{s:List UInt8}{t:To}: ∀{L:List Ev} {i:Nat},t∈q5W s i L↔ ∃k,k<L.length/\t=⟨s,((i+k:Nat):Int),L.getD k ev0⟩
 |[],i=>by simp[q5W]
 | e ::r,i=>by
  rw[q5W,List.mem_cons,numT_mem]
  constructor
  ·rintro(h|⟨k,h1,h2⟩)
   ·exact⟨0,by simp,by rw[h];rfl⟩
   ·exact⟨k+1,by simpa using h1,by rw[h2,List.getD_cons_succ];congr 2;omega⟩
  ·rintro⟨k,h1,h2⟩
   cases k with
   |zero=>exact .inl h2
   |succ k=>exact .inr ⟨k,by simpa using h1,by rw[h2,List.getD_cons_succ];congr 2;omega⟩
theorem z8x(s:List UInt8): ∀(L:List Ev) (i:Nat),(q5W s i L).Pairwise fun x y=>x.v<y.v
 |[],_=>List.Pairwise.nil
 | e ::r,i=>List.pairwise_cons.2 ⟨fun t d=>by
   obtain⟨k,_,rfl⟩:=numT_mem.1 d
   simp only;omega,z8x s r _⟩
theorem q2a(a b:List Bt):tos (a++b)=tos a++tos b:=by unfold tos;rw[List.map_append,List.flatten_append]
theorem q7a(b:Bt):tos [b]=y4n b:=by unfold tos;simp
theorem q4j(b:Bt):(y4n b).length=b.ev.length:=q3s _ _ _
theorem z0K(bs:List Bt)(b:Bt)(s:List UInt8):q0y (bs++[b]) s=if b.st=s then q0y bs s++b.ev else q0y bs s:=by
 unfold q0y;rw[List.filter_append,List.map_append,List.flatten_append]
 split
 ·rename_i h;rw[List.filter_cons_of_pos (by simpa using h)];simp
 ·rename_i h;rw[List.filter_cons_of_neg (by simpa using h)];simp
theorem okBs.nil :okBs []:=fun l b r h=>by simp at h
theorem okBs_snoc{b:Bt}:okBs (bs++[b])↔okBs bs/\z4K b/\b.fi=(q0y bs b.st).length:=by
 constructor
 ·intro h
  exact⟨fun l c r e=>h l c (r++[b]) (by rw[e];simp),h bs b [] rfl⟩
 ·rintro⟨h1,h2⟩ l c r e
  rcases List.eq_nil_or_concat r with i|⟨q,d,i⟩
  ·subst i
   obtain⟨j,o⟩:=List.append_inj' e rfl;rw[<-j];injection o with o;subst o;exact h2
  ·rw[List.concat_eq_append] at i
   subst i;have e':bs++[b]=(l++c::q)++[d]:=by rw[e];simp
   obtain⟨j,_⟩:=List.append_inj' e' rfl;exact h1 l c q j
theorem q6G(h:okBs bs)(s:List UInt8):(tos bs).filter (fun t=>decide (t.s=s))=z9Y bs s:=by
 revert h
 induction bs using q9U with
 |h0=>intro _;rfl
 | h1 l b ih=>
  intro h;obtain⟨h1,h2,h3⟩:=okBs_snoc.1 h;unfold z9Y;rw[q2a,List.filter_append,ih h1,q7a,z0K];by_cases d:b.st=s
  ·rw [ξ d,q4f,Nat.zero_add,<-d,<-h3,List.filter_eq_self.2]
   ·rfl
   ·intro t i
    obtain⟨k,_,rfl⟩:=numT_mem.1 i;simp
  ·rw [κ d,List.filter_eq_nil_iff.2,List.append_nil]
   ·rfl
   ·intro t i
    obtain⟨k,_,rfl⟩:=numT_mem.1 i
    simpa using d
theorem mem_tos{t:To}:t∈tos bs↔ ∃b∈bs,∃k,k<b.ev.length/\t=⟨b.st,((b.fi+k:Nat):Int),b.ev.getD k ev0⟩:=by
 unfold tos;rw[List.mem_flatten]
 constructor
 ·rintro⟨l,j,o⟩
  obtain⟨b,d,rfl⟩:=List.mem_map.1 j;exact⟨b,d,numT_mem.1 o⟩
 ·rintro⟨b,d,i⟩
  exact⟨_,List.mem_map.2 ⟨b,d,rfl⟩,numT_mem.2 i⟩
theorem okBs.each(h:okBs bs){b:Bt}(d:b∈bs):z4K b:=by
 obtain⟨l,r,rfl⟩:=List.append_of_mem d;exact(h l b r rfl).1
theorem q5C(a b:List Bt)(s:List UInt8):q0y (a++b) s=q0y a s++q0y b s:=by
 unfold q0y;rw[List.filter_append,List.map_append,List.flatten_append]
theorem okBs.apart{l m r:List Bt}{b c:Bt}(h:okBs (l++b::m++c::r))(d:b.st=c.st):b.fi+b.ev.length<=c.fi:=by
 have h1:=h l b (m++c::r) (by simp);have h2:=h (l++b::m) c r (by simp);rw[h2.2,h1.2,q5C,θ,show b::m=[b]++m from rfl,q5C,θ,<-d];have:(q0y [b] b.st).length=b.ev.length:=by unfold q0y;simp
 omega
theorem y4Y{l m:List To}(o:l.Pairwise fun x y=>x.v<y.v)(hm:m.Pairwise fun x y=>x.v<y.v)(h: ∀t,t∈l↔t∈m):l=m:=by
 induction l generalizing m with
 | nil=>
  cases m with
  |nil=>rfl
  |cons y m=>exact absurd ((h y).2 (.head _)) (by simp)
 | cons x l ih=>
  cases m with
  |nil=>exact absurd ((h x).1 (.head _)) (by simp)
  | cons y m=>
   obtain⟨h1,h2⟩:=List.pairwise_cons.1 o;obtain⟨h3,h4⟩:=List.pairwise_cons.1 hm;have j:x=y:=by
    rcases List.mem_cons.1 ((h x).1 (.head _)) with e|q
    ·exact e
    rcases List.mem_cons.1 ((h y).2 (.head _)) with e|r
    ·exact e.symm
    have a:=h1 y r;have b:=h3 x q;omega
   subst j;rw[ih h2 h4 fun t=>?_]
   constructor
   ·intro i
    rcases List.mem_cons.1 ((h t).1 (.tail _ i)) with e|d
    ·have:=h1 t i;rw[e] at this;omega
    ·exact d
   ·intro i
    rcases List.mem_cons.1 ((h t).2 (.tail _ i)) with e|d
    ·have:=h3 t i;rw[e] at this;omega
    ·exact d
end
end Go.Proofs.YteabhdclmodefaaGreatDoor
