/- Walks. -/
import Derived.Test.YtfiibpgoplcgkaaGreatDoorG29WS
import Derived.Test.YtfiibpgoplcgkaaGreatDoorG31WS
import Derived.WideKeyEntry
import Derived.Test.YtfiibpgoplcgkaaGreatDoorG32WS
set_option linter.unusedVariables false
set_option linter.unusedSimpArgs false
set_option maxRecDepth 100000
set_option maxHeartbeats 12800000
namespace Go.Proofs.YtfiibpgoplcgkaaGreatDoor
variable {m:Man}{τ:DM}{n en:Int}{e:TE}{f:List UInt8}{k nn u' cnt' p:Nat}{α:Type}{ps:List (List UInt8)}{bs:List Bt}
section
open Go.RowKit Go.Maps
def Man.S(m:Man):List UInt8:=(q2g m.nx m.ck m.sd m.L).1
def Man.E(m:Man):Int:=(q2g m.nx m.ck m.sd m.L).2
def q2q(σ:DM)(m:Man)(n:Int)(l:List En)(f:List UInt8):Int×Option (List En)×DM:=
 if (q0i σ n l f).1≠0 then((q0i σ n l f).1,none,(q3A (q0i σ n l f).2 n).2)
 else if (q1v (q0i σ n l f).2 m.S m.E).1≠0 then((q1v (q0i σ n l f).2 m.S m.E).1,none,(q3A (q1v (q0i σ n l f).2 m.S m.E).2 n).2)
 else match q4g (q1v (q0i σ n l f).2 m.S m.E).2 n with
 |(none,e,τ)=>(e,none,τ)
 |(some L,_,τ)=>(0,some L,τ)
theorem Man.E_ok(h:m.E=0):q0e m.nx m.ck m.L=true:=by
 cases hv:q0e m.nx m.ck m.L with
 |true=>rfl
 |false=>unfold Man.E q2g at h;rw[hv] at h;cases h
theorem Man.E_valid(h:q0e m.nx m.ck m.L=true):m.E=0:=by unfold Man.E q2g;rw[h];rfl
theorem Man.S_le(m:Man):m.S.length<=300:=by
 cases hv:q0e m.nx m.ck m.L with
 |true=>unfold Man.S q2g;rw[hv];exact y3R m.sd hv
 |false=>unfold Man.S q2g;rw[hv];simp
theorem y2W{σ:DM}{S:List UInt8}{E:Int}(h:q1v σ S E=(0,τ)):E=0:=by
 unfold q1v at h
 split at h
 ·injection h
 ·next h1=>exact Decidable.not_not.1 h1
theorem z5R{c:Int}(h:c≠0):q2Y c≠0:=by
 rcases z5S c with e|e<;>rw[e]
 ·exact h
 ·decide
theorem z0h{σ:DM}{e:Int}(h:q4g σ n=(none,e,τ)):e≠0:=by
 unfold q4g at h
 split at h
 ·next h1=>injection h with _ h2;injection h2 with h2 _;rw[<-h2];exact z5R h1
 ·split at h
  ·injection h with _ h2;injection h2 with h2 _;rw[<-h2];decide
  ·split at h
   ·injection h with _ h2;injection h2 with h2 _;rw[<-h2];decide
   ·injection h with h1 _;cases h1
theorem q9e{σ:DM}{e:Int}{L:List En}(h:q4g σ n=(some L,e,τ)):e=0:=by
 unfold q4g at h
 split at h
 ·injection h with h1 _;cases h1
 ·split at h
  ·injection h with h1 _;cases h1
  ·split at h
   ·injection h with h1 _;cases h1
   ·injection h with _ h2;injection h2 with h2 _;exact h2.symm
theorem z6N{σ:DM}{c:Int}{l:List En}(h:q2q σ m n l f=(c,none,τ)):c≠0:=by
 unfold q2q at h
 split at h
 ·next h1=>injection h with h2 _;rw[<-h2];exact h1
 ·split at h
  ·next h1=>injection h with h2 _;rw[<-h2];exact h1
  ·split at h
   ·next h1=>injection h with h2 _;rw[<-h2];exact z0h h1
   ·injection h with _ h2;injection h2 with h2 _;cases h2
theorem z6O{σ:DM}{c:Int}{l L:List En}(h:q2q σ m n l f=(c,some L,τ)):c=0:=by
 unfold q2q at h
 split at h
 ·injection h with _ h2;injection h2 with h2 _;cases h2
 ·split at h
  ·injection h with _ h2;injection h2 with h2 _;cases h2
  ·split at h
   ·injection h with _ h2;injection h2 with h2 _;cases h2
   ·injection h with h2 _;exact h2.symm
theorem z3C{H:Type}{P:Program}{k e t:TypeId}{R:Value->Option (DataW H×List MemPlace)}{w:World}{b:Nat}{es:Array MapEntry}{d:Nat}(K:Keyed P k)(Z:P.underlying t=some (.map k e))
  {z:Value}(hz: ∀u:World,(zeroValue e).run P u= .ok z u)(y:w.heap[b]? =some (.map es d))(F:WideElems.Fit P k R es d){key:Value}{kl:Lit}(G:keyOf P k key=some kl)(val:Value):
  ∃ (v0:Value) (sn:Nat) (es1 es2:Array MapEntry) (c:Nat),(Instr.mapEntry t (.map (some b)) key).run P w= .ok (.tuple #[v0,goInt sn]) (ChangeMaps.setBlock w b (.map es1 c))/\
   (Instr.mapUpdate t (.map (some b)) key val).run P w= .ok () (ChangeMaps.setBlock w b (.map es2 c))/\
   ∀u:World,u.heap[b]? =some (.map es1 c)->(Instr.entryStore t (.map (some b)) (goInt sn) val).run P u= .ok () (ChangeMaps.setBlock u b (.map es2 c)):=by
 obtain⟨a0,Q,_⟩:=F.stamped;rcases K.find w G es.toList F.keys with⟨O,c0⟩|⟨j,e0,O,N,o⟩
 ·have S:((es.toList++[(⟨key,z,d⟩:MapEntry)]).map (·.born)).Nodup:=by
   rw[List.map_append,List.nodup_append];refine⟨Q,by simp,fun a ha c hc b0=>?_⟩;obtain⟨x,hx,rfl⟩:=List.mem_map.1 ha;have h1:=a0 x hx;simp at hc;omega
  have q:(es.push ⟨key,z,d⟩).findIdx? (fun x=>((x.born:Nat):Int)==((d:Nat):Int))=some es.size:=by
   rw[WideElems.findIdx_arr,Array.toList_push];exact WideElems.findIdx_born (e0:=⟨key,z,d⟩) S (by rw[List.getElem?_append_right (by simp)];simp)
  have r:(es.push ⟨key,z,d⟩).modify es.size (fun x=>{x with val:=val})=es.push ⟨key,val,d⟩:=by
   refine Array.ext (by simp) fun i h1 h2=>?_
   rw[Array.getElem_modify,Array.getElem_push,Array.getElem_push];by_cases X:i<es.size
   ·rw[κ (by omega),dif_pos X,dif_pos X]
   ·have:es.size=i:=by simp at h2;omega
    rw[ξ this,dif_neg X,dif_neg X]
  refine⟨z,d,es.push ⟨key,z,d⟩,es.push ⟨key,val,d⟩,d+1,?_,?_,fun u U=>?_⟩
  ·simp[Instr.mapEntry,run_underlying Z,MapKept.run_getObj_map y,K.check w false G,O,hz,MapKept.run_setObj_map _ y,Result.andThen,ChangeMaps.setBlock]
  ·simp[Instr.mapUpdate,run_underlying Z,MapKept.run_getObj_map y,K.check w false G,O,MapKept.run_setObj_map _ y,Result.andThen,ChangeMaps.setBlock]
  ·simp[Instr.entryStore,MapKept.run_getObj_map U,asInt,asIntOf,goInt,q,r,MapKept.run_setObj_map _ U,Result.andThen,ChangeMaps.setBlock]
 ·have J:es[j]? =some e0:=by simpa using N
  have I:es.modify j (fun x=>{x with key:=key})=es:=by
   refine Array.ext (by simp) fun i h1 h2=>?_
   rw[Array.getElem_modify]
   split
   ·next hji=>
    subst hji;have:es[j]=e0:=by rw[Array.getElem?_eq_getElem h2] at J;injection J
    rw[this,<-o]
   ·rfl
  have q:es.findIdx? (fun x=>((x.born:Nat):Int)==((e0.born:Nat):Int))=some j:=by
   rw[WideElems.findIdx_arr];exact WideElems.findIdx_born Q N
  have r:es.modify j (fun x=>{x with val:=val})=es.modify j (fun x=>{x with key:=key,val:=val}):=by
   refine Array.ext (by simp) fun i h1 h2=>?_
   rw[Array.getElem_modify,Array.getElem_modify]
   split
   ·next hji=>
    subst hji;have h3:j<es.size:=by simpa using h2
    have:es[j]=e0:=by rw[Array.getElem?_eq_getElem h3] at J;injection J
    rw[this,<-o]
   ·rfl
  refine⟨e0.val,e0.born,es,es.modify j (fun x=>{x with key:=key,val:=val}),d,?_,?_,fun u U=>?_⟩
  ·simp[Instr.mapEntry,run_underlying Z,MapKept.run_getObj_map y,K.check w false G,O,J,o,K.stays w G,I,MapKept.run_setObj_map _ y,Result.andThen,ChangeMaps.setBlock]
  ·simp[Instr.mapUpdate,run_underlying Z,MapKept.run_getObj_map y,K.check w false G,O,J,o,K.stays w G,MapKept.run_setObj_map _ y,Result.andThen,ChangeMaps.setBlock]
  ·simp[Instr.entryStore,MapKept.run_getObj_map U,asInt,asIntOf,goInt,q,r,MapKept.run_setObj_map _ U,Result.andThen,ChangeMaps.setBlock]
theorem z8F{w:World}{gt:Nat}{D:DataW Unit}(h:w.ownsMap Tryz.prog 3 q5s gt nn D)(q:nn<maxLen)(N:(Lit.int .i64 n).wf=true)(b:Nat):
  ∃ (J:Value) (y:Nat) (W1 W2:World),(Instr.mapEntry 184 (.map (some gt)) (.int .i64 n)).run Tryz.prog w= .ok (.tuple #[J,.int .i64 (y:Int)]) W1/\
   (Instr.entryStore 184 (.map (some gt)) (.int .i64 (y:Int)) (.pointer (some ⟨b,0,none⟩))).run Tryz.prog W1= .ok () W2/\
   W2.ownsMap Tryz.prog 3 q5s gt (nn+1) (D.put (.int .i64 n) (.lit (.int .i64 b)))/\OffS (fun i=>i=gt) w W2:=by
 have Q:=h;obtain⟨es,G,o,F,X,R⟩:=h;obtain⟨J,y,I,O,c,h1,h2,h3⟩:=z3C (w:=w) Tryz.keyInt Tryz.underlying184 y4I o F (keyOf_int_mk Tryz.underlying3 N) (.pointer (some ⟨b,0,none⟩));obtain⟨w',r,j,S⟩:=Q.update Tryz.keyInt Tryz.underlying184 q (keyOf_int_mk Tryz.underlying3 N) (z0l b);rw[h2] at r;injection r with _ r;subst r;have d:=ChangeMaps.heap_setBlock_same o (.map I c);refine⟨J,y,_,_,h1,h3 _ d,q2I j ?_,⟨rfl,rfl,rfl,by simp[ChangeMaps.setBlock],fun i U q=>?_⟩⟩
 ·rw[ChangeMaps.heap_setBlock_same o,ChangeMaps.heap_setBlock_same d]
 ·rw[ChangeMaps.heap_setBlock_other d _ q,ChangeMaps.heap_setBlock_other o _ q]
end
section
open Go.RowKit
abbrev Fls :=List UInt8->Option (List UInt8)
def q5u(φ:Fls)(nm t:List UInt8):Fls:=fun x=>if x=nm then some t else φ x
def q9F(φ:Fls)(nm:List UInt8):Fls:=fun x=>if x=nm then none else φ x
def Fl(σ:DM)(c s:Int)(φ:Fls)(u cnt:Nat):Prop:= ∃l,Pl σ c s l/\q2S Prod.fst l/\(∀nm,(q0F Prod.fst nm l).map Prod.snd=φ nm)/\q1R l<=u/\l.length<=cnt
section
variable {σ :DM}{c s:Int}{l:List (List UInt8×List UInt8)}{nm t a b:List UInt8}{x:List UInt8×List UInt8}{φ:Fls}{u cnt:Nat}
theorem Pl.delete(h:Pl σ c s l)(d:q0F Prod.fst nm l=some x): ∃σ',q0V σ nm=(0,σ')/\Pl σ' c s (delN Prod.fst nm l):=by
 obtain⟨f,h1,rfl⟩:=h.find_some d;refine⟨{q0w σ with L:=delN FM.nm nm σ.L},?_,h.up,h.fine,?_,h.cap,h.st⟩
 ·unfold q0V
  rw[κ (by rw[h.up];decide),h1,κ (by simp),κ (by rw[h.no];decide)]
 ·rw[<-h.files]
  exact q6J (k:=FM.nm) (k':=Prod.fst) q5c nm σ.L
theorem Pl.deleteN(h:Pl σ c s l)(d:q0F Prod.fst nm l=none):q0V σ nm=(4,σ):=by
 unfold q0V;rw[κ (by rw[h.up];decide),h.find_none d,ξ (by simp)]
theorem Pl.rename(h:Pl σ c s l)(j:q0F Prod.fst a l=some x)(i:q1t b=true)(d:a≠b): ∃σ',q1P σ a b=(0,σ')/\Pl σ' c s (q1K Prod.fst (b,x.2) (delN Prod.fst a (delN Prod.fst b l))):=by
 obtain⟨f,h1,rfl⟩:=h.find_some j;refine⟨{q0w σ with L:=z6C a b f σ.L},?_,h.up,h.fine,?_,h.cap,h.st⟩
 ·unfold q1P
  rw[κ (by rw[h.up];decide),h1];simp only;rw[κ (by rw[i];decide),κ (by rw[h.no];decide),κ d]
 ·rw[<-h.files]
  show(z6C a b f σ.L).map fbF=_;unfold z6C;rw[q6R (k:=FM.nm) (k':=Prod.fst) q5c,q6J (k:=FM.nm) (k':=Prod.fst) q5c,q6J (k:=FM.nm) (k':=Prod.fst) q5c]
  rfl
theorem z0P(nm:List UInt8)(l:List (List UInt8×List UInt8)):q0F Prod.fst nm (delN Prod.fst nm l)=none:=q0W fun y d=>(mem_delN.1 d).2
theorem q8N{nm d:List UInt8}(l:List (List UInt8×List UInt8))(i:nm≠d):q0F Prod.fst nm (delN Prod.fst d l)=q0F Prod.fst nm l:=by
 unfold q0F delN;rw[List.find?_filter]
 congr 1
 funext y
 by_cases j:y.1=nm
 ·have h1:(y.1==nm)=true:=by simpa using j
  have h2:(y.1==d)=false:=by rw[j];simpa using i
  rw[h1,h2];rfl
 ·have h1:(y.1==nm)=false:=by simpa using j
  rw[h1];simp
theorem z2W(nm:List UInt8)(l:List (List UInt8×List UInt8)):q1R (delN Prod.fst nm l)<=q1R l:=by
 unfold q1R q5Q delN
 induction l with
 |nil=>exact ι _
 | cons y r ih=>
  rw[List.filter_cons]
  split
  ·simp only[List.map_cons,List.sum_cons];omega
  ·simp only[List.map_cons,List.sum_cons];omega
theorem z6y(nm:List UInt8)(l:List (List UInt8×List UInt8)):(delN Prod.fst nm l).length<=l.length:=List.length_filter_le _ _
theorem Fl.find(d: ∀nm,(q0F Prod.fst nm l).map Prod.snd=φ nm)(h:φ nm=some t):q0F Prod.fst nm l=some (nm,t):=by
 have h1:=d nm;rw[h] at h1
 cases hf:q0F Prod.fst nm l with
 |none=>rw[hf] at h1;cases h1
 | some y=>
  rw[hf] at h1;have h2:=(q0K hf).2;injection h1 with h1;rw[<-h1,<-h2]
theorem Fl.noFind(d: ∀nm,(q0F Prod.fst nm l).map Prod.snd=φ nm)(h:φ nm=none):q0F Prod.fst nm l=none:=by
 have h1:=d nm;rw[h] at h1
 cases hf:q0F Prod.fst nm l with
 |none=>rfl
 |some y=>rw[hf] at h1;cases h1
theorem Fl.put(i: ∀nm,(q0F Prod.fst nm l).map Prod.snd=φ nm)(h:φ nm=none)(t:List UInt8): ∀x,(q0F Prod.fst x (q1K Prod.fst (nm,t) l)).map Prod.snd=q5u φ nm t x:=fun x=>by
 unfold q5u;by_cases d:x=nm
 ·subst d
  rw[ξ rfl,q3h (k:=Prod.fst) (x:=(x,t)) (q0U (Fl.noFind i h))]
  rfl
 ·rw[κ d,q3i (k:=Prod.fst) (x:=(nm,t)) (fun e=>d e.symm)]
  exact i x
theorem Fl.cut(i: ∀nm,(q0F Prod.fst nm l).map Prod.snd=φ nm)(nm:List UInt8): ∀x,(q0F Prod.fst x (delN Prod.fst nm l)).map Prod.snd=q9F φ nm x:=fun x=>by
 unfold q9F;by_cases d:x=nm
 ·subst d;rw[ξ rfl,z0P];rfl
 ·rw[κ d,q8N l d];exact i x
theorem Fl.up(h:Fl σ c s φ u cnt):σ.down=false:=by obtain⟨l,h1,_⟩:=h;exact h1.up
theorem Fl.mono(h:Fl σ c s φ u cnt)(h1:u<=u')(h2:cnt<=cnt'):Fl σ c s φ u' cnt':=by
 obtain⟨l,d,i,j,o,q⟩:=h;exact⟨l,d,i,j,by omega,by omega⟩
theorem Fl.tell(h:Fl σ c s φ u cnt):Fl (q2h σ) c s φ u cnt:=by
 obtain⟨l,d,i,j,o,q⟩:=h;exact⟨l,d.tell,i,j,o,q⟩
theorem Fl.tells : ∀(k:Nat) {σ:DM},Fl σ c s φ u cnt->Fl (tellN k σ) c s φ u cnt
 |0,_,h=>h
 |k+1,σ,h=>by rw[q1o];exact Fl.tells k h.tell
theorem Fl.del(h:Fl σ c s φ u cnt)(r:φ nm=some t): ∃σ',q0V σ nm=(0,σ')/\Fl σ' c s (q9F φ nm) u cnt:=by
 obtain⟨l,i,j,d,o,q⟩:=h;obtain⟨σ',e,p⟩:=i.delete (Fl.find d r);exact⟨σ',e,_,p,q2H j,Fl.cut d nm,Ω (z2W nm l) o,Ω (z6y nm l) q⟩
theorem Fl.write(h:Fl σ c s φ u cnt)(i:0<=n/\n<=999999){L:List En}(q:q2f L=true)(h1:φ (q0B 116 n)=none)(h2:φ (q0B 98 n)=none)(hm:cnt<398)
  (G:6000<=c-(u:Int)-((q3V L).length:Int)-(f.length:Int)): ∃σ',q0i σ n L f=(0,σ')/\Fl σ' c s (q5u (q5u φ (q0B 98 n) f) (q0B 116 n) (q3V L)) (u+f.length+(q3V L).length) (cnt+2):=by
 obtain⟨l,j,o,d,r,y⟩:=h;obtain⟨σ',e,p⟩:=j.write i q (f:=f) (Fl.noFind d h1) (Fl.noFind d h2) (by omega) (by omega);have h3:q5u φ (q0B 98 n) f (q0B 116 n)=none:=by unfold q5u;rw[κ (q5o n n i i)];exact h1
 have b3:=Fl.put d h2 f;refine⟨σ',e,_,p,q2v (q2v o (q0U (Fl.noFind d h2))) (q0U (Fl.noFind b3 h3)),Fl.put b3 h3 _,by rw[q4R,q4R];simp only;omega,by rw[q2n,q2n];omega⟩
theorem Fl.swap(h:Fl σ c s φ u cnt){S:List UInt8}(h1:φ q2J=none)(hm:cnt<400)(hr:6000<=c-(u:Int)-(S.length:Int)): ∃σ',q1v σ S 0=(0,σ')/\Fl σ' c s (q5u φ mapN S) (u+S.length) (cnt+1):=by
 obtain⟨l,r,R,J,U,a5⟩:=h;have j:=Fl.noFind J h1;have hg:q6r σ q2J=(0,σ):=by unfold q6r;rw[r.deleteN j];simp
 obtain⟨σ1,X,p1⟩:=r.create j (by decide) (by omega);have y:=q3h (k:=Prod.fst) (x:=(q2J,([]:List UInt8))) (q0U j);obtain⟨a0,Z,Q⟩:=p1.append (t:=S) y (by rw[q4R];simp only[List.length_nil];omega);rw[q7p (q0U j)] at Q;have d:=q3h (k:=Prod.fst) (x:=(q2J,S)) (q0U j);obtain⟨b0,e3,p3⟩:=Q.sync d;obtain⟨I,e4,p4⟩:=p3.rename (b:=mapN) d (by decide) new_ne_map;have G:q2S Prod.fst (q1K Prod.fst (q2J,S) l):=q2v R (q0U j);have b3:=Fl.put J h1 S;have b4:=Fl.cut (Fl.cut b3 mapN) q2J;have q:q9F (q9F (q5u φ q2J S) mapN) q2J mapN=none:=by unfold q9F;rw[κ new_ne_map.symm,ξ rfl]
 refine⟨I,?_,_,p4,q2v (q2H (q2H G)) (q0U (Fl.noFind b4 q)),fun x=>?_,?_,?_⟩
 ·unfold q1v
  rw[κ (fun h=>h rfl),κ (by rw[r.up];decide),hg];unfold q3D;simp only[if_true];unfold z9B;rw[r.free,κ (by omega),X];unfold q3D;simp only[if_true];rw[Z];simp only[if_true];rw[e3];simp only[if_true];rw[e4]
 ·rw [Fl.put b4 q S x]
  unfold q5u q9F;by_cases O:x=mapN
  ·simp[O]
  ·by_cases d:x=q2J
   ·simp[d,h1,new_ne_map]
   ·simp[O,d]
 ·have i:q0F Prod.fst q2J (delN Prod.fst mapN (q1K Prod.fst (q2J,S) l))=some (q2J,S):=by rw[q8N _ new_ne_map];exact d
  have N:=q7m (fun x:List UInt8×List UInt8=>x.2.length) (q2H G) i;have o:=z2W mapN (q1K Prod.fst (q2J,S) l);rw[q4R] at o⊢;unfold q1R at o U⊢;simp only at N o⊢;omega
 ·have i:q0F Prod.fst q2J (delN Prod.fst mapN (q1K Prod.fst (q2J,S) l))=some (q2J,S):=by rw[q8N _ new_ne_map];exact d
  have N:=q8G (q2H G) i;have o:=z6y mapN (q1K Prod.fst (q2J,S) l);rw[q2n] at o⊢;show(delN Prod.fst q2J (delN Prod.fst mapN (q1K Prod.fst (q2J,S) l))).length+1<=cnt+1;omega
theorem Fl.wl(h:Fl σ c s φ u cnt){L:List En}(j:φ (q0B 116 n)=some (q3V L)):Wl σ n L:=by
 obtain⟨l,d,o,i,q,r⟩:=h;exact d.wl (Fl.find i j)
theorem Fl.drop(h:Fl σ c s φ u cnt)(i:0<=n/\n<=999999){x y:List UInt8}(h1:φ (q0B 116 n)=some x)(h2:φ (q0B 98 n)=some y): ∃σ',q3A σ n=(0,σ')/\Fl σ' c s (q9F (q9F φ (q0B 116 n)) (q0B 98 n)) u cnt:=by
 obtain⟨σ1,j,q⟩:=h.del h1;obtain⟨d,o,r⟩:=q.del (nm:=q0B 98 n) (t:=y) (by unfold q9F;rw[κ (q5o n n i i).symm];exact h2);refine⟨d,?_,r⟩;unfold q3A;rw[j];simp only;rw[ξ (.inl rfl),o,ξ (.inl rfl)]
theorem Fl.exact(h:Fl σ c s φ u cnt): ∃d,d<=u/\Fl σ c s φ d cnt/\q4J σ=c-(d:Int):=by
 obtain⟨l,i,j,o,q,r⟩:=h;exact⟨q1R l,q,⟨l,i,j,o,ι _,r⟩,i.free⟩
theorem Fl.delN(h:Fl σ c s φ u cnt)(j:φ nm=none):q0V σ nm=(4,σ):=by
 obtain⟨l,d,o,i,q,r⟩:=h;exact d.deleteN (Fl.noFind i j)
theorem Fl.turn(h:Fl σ c s φ u cnt)(hm:q0e m.nx m.ck m.L=true)(o:0<=n/\n<=999999){L:List En}(hs:q1G L)(Z:q2f L=true)(ho: ∀e∈L,q3Z e=true)(hl:L.length<=50000)
  (h1:φ (q0B 116 n)=none)(h2:φ (q0B 98 n)=none)(h3:φ q2J=none)(a0:cnt<397):
  (∃ σ',q2q σ m n L f=(0,some L,σ')/\Fl σ' c s (q5u (q5u (q5u φ (q0B 98 n) f) (q0B 116 n) (q3V L)) mapN m.S) (u+f.length+(q3V L).length+300) (cnt+3))\/
   ∃σ',q2q σ m n L f=(60,none,σ')/\Fl σ' c s φ (u+f.length+(q3V L).length+300) (cnt+3)/\c-(u:Int)-((q3V L).length:Int)-(f.length:Int)-300<6000:=by
 have hS:=m.S_le;have R:mapN≠q0B 116 n:=fun e=>by rw[q0R o] at e;exact absurd (List.cons.inj e).1 (by decide)
 have q: ∀G:UInt8,G=116\/G=98->q2J≠q0B G n:=fun G hc e=>by
  rw[q0R o] at e;rcases hc with rfl|rfl
  ·exact absurd (List.cons.inj e).1 (by decide)
  ·exact absurd (List.cons.inj e).1 (by decide)
 obtain⟨u0,q1,q2,q3⟩:=h.exact;by_cases U:6000<=c-(u0:Int)-((q3V L).length:Int)-(f.length:Int)
 ·obtain⟨σ1,I,N⟩:=q2.write o Z (f:=f) h1 h2 (by omega) U
  have j:q5u (q5u φ (q0B 98 n) f) (q0B 116 n) (q3V L) q2J=none:=by unfold q5u;rw[κ (q 116 (.inl rfl)),κ (q 98 (.inr rfl))];exact h3
  obtain⟨u1,z1,z2,z3⟩:=N.exact;by_cases X:6000<=c-(u1:Int)-(m.S.length:Int)
  ·obtain⟨i,O,r⟩:=z2.swap (S:=m.S) j (by omega) X
   have hw:Wl i n L:=r.wl (by unfold q5u;rw[κ R.symm,ξ rfl]);obtain⟨k,_,Q⟩:=z4f hw hs ho (by omega);refine .inl ⟨tellN k i,?_,(Fl.tells k r).mono (by omega) (by omega)⟩;unfold q2q;rw[I];simp only;rw[κ (fun h=>h rfl),Man.E_valid hm,O];simp only;rw[κ (fun h=>h rfl),Q]
  ·have O:q1v σ1 m.S 0=(60,σ1):=by
    unfold q1v q6r;rw[κ (fun h=>h rfl),κ (by rw[N.up];decide),N.delN j,ξ rfl];unfold q3D z9B;rw[ξ rfl];simp only;rw[z3,ξ (by omega)]
   obtain⟨i,Q,r⟩:=N.drop o (x:=q3V L) (y:=f) (by unfold q5u;rw[ξ rfl]) (by unfold q5u;rw[κ (q5o n n o o).symm,ξ rfl]);refine .inr ⟨i,?_,?_,by omega⟩
   ·unfold q2q
    rw[I];simp only;rw[κ (fun h=>h rfl),Man.E_valid hm,O];simp only;rw[ξ (by decide),Q]
   ·have e4:q9F (q9F (q5u (q5u φ (q0B 98 n) f) (q0B 116 n) (q3V L)) (q0B 116 n)) (q0B 98 n)=φ:=by
     funext x
     unfold q9F q5u;by_cases J:x=q0B 98 n
     ·rw[ξ J,J,h2]
     ·rw[κ J]
      by_cases d:x=q0B 116 n
      ·rw[ξ d,d,h1]
      ·rw[κ d,κ d,κ J]
    rw[e4] at r;exact r.mono (by omega) (by omega)
 ·have I:q0i σ n L f=(60,σ):=by
   unfold q0i;rw[κ (fun e=>by rcases e with e|e;exact e o;rw[Z] at e;cases e),κ (by rw[h.up];decide),q3,ξ (by omega)]
  refine .inr ⟨σ,?_,h.mono (by omega) (by omega),by omega⟩;unfold q2q;rw[I];simp only;rw[ξ (by decide)];unfold q3A;rw[h.delN h1];simp only;rw[ξ (.inr (.inl rfl)),h.delN h2];simp only;rw[ξ (.inr (.inl rfl))]
end
end
section
open Go.RowKit Go.Maps
theorem q4n{P:Program}{id:Nat}{Q:Exit->Act->World->Prop}{a:Act}{w:World}{l:List Oper}(n:Nat)(hm:P.follows .mixedOrders=true)(i:Region.lexTailB .any l.toArray n=true)
  (h:wpStill P l.toArray w.drew (fun d=>wpList P l.toArray Q (l.drop n) d w.drew) (l.take n) a):(Code.region id l.toArray true).wp P Q a w:=
 wp_region_still_tail n hm i h
structure ManV(w:World)(m:Man)(v:Value)(vs:List Value)(V:Nat->Prop):Prop where
 lev:OGr w 0 37 3 v vs m.L
 inV: ∀i,(v.ownBlock=some i\/ ∃q,(vs.getD q (.slice none 0 0)).ownBlock=some i)->V i
theorem ManV.same{w w':World}{v:Value}{vs:List Value}{V:Nat->Prop}(h:ManV w m v vs V)(k:Stay V w w'):ManV w' m v vs V:=⟨q3U h.lev fun i d=>k i (h.inV i d),h.inV⟩
def IxSt.put(st:IxSt)(m:Man)(n:Int)(e:TE):IxSt:=⟨m,st.rate,st.w,fun x=>if x=n then some e else st.t x,st.c+1⟩
theorem IxSt.put_full{st:IxSt}(h:st.full)(hm: ∀x∈m.L.flatten,x=n\/x∈st.m.L.flatten):(st.put m n e).full:=fun x j=>by
 unfold IxSt.put;simp only;by_cases d:x=n
 ·exact⟨e,by rw[ξ d]⟩
 ·rcases hm x j with h1|h1
  ·exact absurd h1 d
  ·obtain⟨i,h2⟩:=h x h1
   exact⟨i,by rw[κ d];exact h2⟩
def y2s(wb w:World)(g gx:Nat)(st:IxSt)(m:Man)(n:Int)(K V:Nat->Prop)(r:Int×Option (List En)×DM)(w':World):Prop:=
 match r.2.1 with
 |none=>IxK wb w' g gx st r.2.2 K/\Stay K w w'
 |some L=> ∃b may,IxK wb w' g gx (st.put m n ⟨b,L,may⟩) r.2.2 K/\Stay K w w'
section
variable {wb w w1 w2:World}{g gx gm gt:Nat}{st st1:IxSt}{F Y Y1 K K' V:Nat->Prop}{σ σ1:DM}
structure TurnW(wb w W:World)(g gx:Nat)(st:IxSt)(m:Man)(v:Value)(vs:List Value)(K V:Nat->Prop)(p:Nat)(F:Nat->Prop)(σ:DM)(gm gt:Nat)(Y:Nat->Prop):Prop where
 i:IxF wb W g F σ gx gm gt st Y (fun i=>K i\/V i\/i=p)
 man:ManV W m v vs V
 box:Blk W p 47 #[.int .i64 m.nx,.int .i64 m.ck,.int .u64 m.sd,v]
 stay:Stay K w W
theorem TurnW.grow{W W1:World}{v:Value}{vs:List Value}(h:TurnW wb w W g gx st m v vs K V p F σ gm gt Y)(k:Ext W W1):TurnW wb w W1 g gx st m v vs K V p F σ gm gt Y:=
 ⟨h.i.grow k,h.man.same fun i d=>h.i.kExt k i (.inr (.inl d)),h.box.ext k,h.stay.trans fun i d=>h.i.kExt k i (.inl d)⟩
theorem TurnW.disk{W W1:World}{v:Value}{vs:List Value}(h:TurnW wb w W g gx st m v vs K V p F σ gm gt Y)(k:DkS W g F σ1 W1):TurnW wb w W1 g gx st m v vs K V p (Gr F W W1) σ1 gm gt Y:=by
 obtain⟨h1,h2⟩:=h.i.disk k;exact⟨h1,h.man.same fun i d=>h2 i (.inr (.inl d)),h.box.same (h2 p (.inr (.inr rfl))),h.stay.trans fun i d=>h2 i (.inl d)⟩
theorem TurnW.ixi{W:World}{v:Value}{vs:List Value}(h:TurnW wb w W g gx st m v vs K V p F σ gm gt Y): ∃v vs vm D nn,IxI W gx g gm gt st v vs vm D nn Y:=h.i.i.x.2
theorem TurnW.fin{W:World}{v:Value}{vs:List Value}(h:TurnW wb w W g gx st m v vs K V p F σ gm gt Y):IxK wb W g gx st σ K/\Stay K w W:=⟨⟨_,_,_,_,h.i.beside fun i d=> .inl d⟩,h.stay⟩
theorem TurnW.cells{W:World}{v:Value}{vs:List Value}(h:TurnW wb w W g gx st m v vs K V p F σ gm gt Y):
  W.cell? ⟨gx,0,none⟩=some (.pointer (some ⟨g,0,none⟩))/\W.cell? ⟨gx,5,none⟩=some (.float .f64 st.rate)/\
  W.cell? ⟨p,0,none⟩=some (.int .i64 m.nx)/\W.cell? ⟨p,1,none⟩=some (.int .i64 m.ck)/\W.cell? ⟨p,2,none⟩=some (.int .u64 m.sd)/\W.cell? ⟨p,3,none⟩=some v:=by
 obtain⟨j,i,vm,D,nn,d⟩:=h.ixi;exact⟨d.c0,d.c5,h.box.cell 0,h.box.cell 1,h.box.cell 2,h.box.cell 3⟩
theorem IxI.putT{v v2:Value}{vs J:List Value}{vm:Value}{D:DataW Unit}(h:IxI w gx g gm gt st v vs vm D nn Y)(hm:ManV w m v2 J V){t:Nat}{L:List En}{may:Int->Bool}{T:Nat->Prop}
  (S:w2.ownsMap Tryz.prog 3 q5s gt (nn+1) (D.put (.int .i64 n) (.lit (.int .i64 t))))
  (hF:OffS (fun i=>i=gt) ((((w.setCell ⟨gx,1,none⟩ (.int .i64 m.nx)).setCell ⟨gx,2,none⟩ (.int .i64 m.ck)).setCell ⟨gx,3,none⟩ (.int .u64 m.sd)).setCell ⟨gx,4,none⟩ v2).drew w2)
  (r:Tb w t g n L may T)(O: ∀i,V i->i<w.heap.size/\¬InX gx gm gt i)(R: ∀i,T i->¬InX gx gm gt i):
  IxI w2 gx g gm gt (st.put m n ⟨t,L,may⟩) v2 J vm (D.put (.int .i64 n) (.lit (.int .i64 t))) (nn+1) (fun i=>Y i\/V i\/T i)/\OffS (InX gx gm gt) w w2:=by
 have j:OffS (InX gx gm gt) w w2:=((((OffS.set (F:=InX gx gm gt) w (.inl rfl) 1 (.int .i64 m.nx)).trans (OffS.set _ (.inl rfl) 2 (.int .i64 m.ck))).trans (OffS.set _ (.inl rfl) 3 (.int .u64 m.sd))).trans (OffS.set _ (.inl rfl) 4 v2)).trans ((OffS.of_ext (Ext.refl _).drew).trans (hF.mono fun i _ d=> .inr (.inr d)));have N: ∀i,i<w.heap.size->¬InX gx gm gt i->w2.heap[i]? =w.heap[i]? :=fun i d o=>j.block i d o
 have Q:w2.heap[gm]? =w.heap[gm]? :=by
  rw[hF.block gm (Ψ h.mem.blk.lt (by simp[World.setCell,World.drew,-World.drew_eq])) h.ne.2.2];show(((((w.setCell ⟨gx,1,none⟩ (.int .i64 m.nx)).setCell ⟨gx,2,none⟩ (.int .i64 m.ck)).setCell ⟨gx,3,none⟩ (.int .u64 m.sd)).setCell ⟨gx,4,none⟩ v2)).heap[gm]? =_;rw[Below.heap_setCell _ _ _ _ h.ne.1.symm,Below.heap_setCell _ _ _ _ h.ne.1.symm,Below.heap_setCell _ _ _ _ h.ne.1.symm,Below.heap_setCell _ _ _ _ h.ne.1.symm]
 have G:Blk w2 gx 186 #[.pointer (some ⟨g,0,none⟩),.int .i64 m.nx,.int .i64 m.ck,.int .u64 m.sd,v2,.float .f64 st.rate,.pointer (some ⟨gm,0,none⟩),.map (some gt)]:=by
  have h1:=(((h.blk.set 1 (.int .i64 m.nx)).set 2 (.int .i64 m.ck)).set 3 (.int .u64 m.sd)).set 4 v2;exact(Blk.drew h1).same (hF.block gx (Blk.drew h1).lt h.ne.2.1)
 have q: ∀i,(Y i\/V i\/T i)->i<w.heap.size/\¬InX gx gm gt i:=fun i d=>by
  rcases d with d|d|d
  ·exact⟨h.lt i d,h.apart i d⟩
  ·exact O i d
  ·exact⟨r.lt i d,R i d⟩
 refine⟨⟨G,?_,q3U hm.lev fun i d=>N i (O i (hm.inV i d)).1 (O i (hm.inV i d)).2,S,Nat.succ_le_succ h.cnt,fun x=>?_,fun x e o=>?_,fun i d=>?_,fun i d=>Ψ (q i d).1 j.size,fun i d=>(q i d).2,h.ne⟩,j⟩
 ·refine h.mem.same fun i d=>?_
  rcases d with rfl|d
  ·exact Q
  ·have I:=h.inY i (.inr (.inr d))
   exact N i (h.lt i I) (h.apart i I)
 ·exact z4Z (e:=⟨t,L,may⟩) h.look h.map.isMap x
 ·unfold IxSt.put at o
  simp only at o;by_cases y:x=n
  ·rw[ξ y] at o
   injection o with o;subst o;subst y;exact(r.same j.size fun i d=>N i (r.lt i d) (R i d)).mono (fun i d=> .inr (.inr d)) fun i d=>Ψ (q i d).1 j.size
  ·rw[κ y] at o
   exact((h.tab x e o).same j.size fun i d=>N i (h.lt i d) (h.apart i d)).mono (fun i d=> .inl d) fun i d=>Ψ (q i d).1 j.size
 ·rcases d with d|d|d
  ·exact .inr (.inl (hm.inV i (.inl d)))
  ·exact .inr (.inl (hm.inV i (.inr d)))
  ·exact .inl (h.inY i (.inr (.inr d)))
theorem y4D(h:IxF wb w g F σ gx gm gt st Y (fun i=>K i\/V i)){v:Value}{vs:List Value}(hv:ManV w m v vs V)(n0: ∀i,V i->wb.heap.size<=i/\¬K i)(hn:0<=n/\n<=1000000)
  {ao:Option Addr}{cap:Nat}{l:List En}(hx:Ens w ao k cap l)(hk:k<=1000)(O0: ∀e∈l,q3Z e=true)
  (Q0: ∀x∈m.L.flatten,(Lit.int .i64 x).wf=true)(R0:m.L.flatten.length<=1000)(x0:0<=m.sd)(y0:m.sd<18446744073709551616)(hc:st.c<1000000):
  Calls Tryz.prog 171 #[.pointer (some ⟨gx,0,none⟩),.agg #[.int .i64 m.nx,.int .i64 m.ck,.int .u64 m.sd,v],.int .i64 n,.slice ao k cap] w fun e w'=>
   ∃f:List UInt8,128<=f.length/\f.length<=64*(l.length/20+2)/\e= .returned (.int .i64 (q2q σ m n l f).1)/\y2s wb w g gx st m n K V (q2q σ m n l f) w':=by
 obtain⟨av,kv,rfl,q0⟩:=hv.lev.grid;have U:=q0C w (.cells #[.int .i64 m.nx,.int .i64 m.ck,.int .u64 m.sd,.slice av m.L.length kv] 47);have s0: ∀i,V i->i<w.heap.size:=fun i j=>(h.k i (.inr j)).1
 have i0:Hd (TurnW wb w (w.alloc (.cells #[.int .i64 m.nx,.int .i64 m.ck,.int .u64 m.sd,.slice av m.L.length kv] 47)) g gx st m (.slice av m.L.length kv) vs K V w.heap.size F σ gm gt Y):=η
  ⟨h.more U (fun i j=>by
   rcases j with j|j|j
   ·exact .inl (.inl j)
   ·exact .inl (.inr j)
   ·exact .inr ⟨by omega,by rw[ρ];omega⟩),hv.same (fun i j=>U.block i (s0 i j)),Blk.new _ _ _,fun i j=>U.block i (h.k i (.inl j)).1⟩
 have g0:=η (fun W (k:Ext w W)=>hx.ext k);have m0:=η U;have K0:=η Q0;clear h hv hx U q0 s0;go_enter Tryz.func171,Tryz.ntmps171;go_wp2_with fail;obtain⟨w1,f0⟩: ∃w1,w.alloc (.cells #[.int .i64 m.nx,.int .i64 m.ck,.int .u64 m.sd,.slice av m.L.length kv] 47)=w1:=⟨_,rfl⟩
 obtain⟨p,hp⟩: ∃p,w.heap.size=p:=⟨_,rfl⟩
 rw[f0,hp] at i0;rw[f0] at m0;simp only[f0,hp];clear f0 hp;obtain⟨d0,d5,p0,p1,p2,p3⟩:=i0.o.cells;refine q4n 10 (by kernel_rfl) (by kernel_rfl) ?_;simp only[List.take_succ_cons,List.take_zero,List.drop_succ_cons,List.drop_zero]
 repeat still_step
 refine wpStill_nil ?_;go_wp2_with fail;have N:=η (i0.o.grow (Ext.refl w1).drew);refine(y0W N.o.i.i.d n st.rate (g0.o _ m0.o.drew) hk O0).mono ?_;rintro e w2 ⟨f,f1,f2,rfl,hd⟩;have G:=η (N.o.disk hd)
 have HM:Hd (q2q σ m n l f=if (q0i σ n l f).1≠0 then((q0i σ n l f).1,none,(q3A (q0i σ n l f).2 n).2)
  else if (q1v (q0i σ n l f).2 m.S m.E).1≠0 then((q1v (q0i σ n l f).2 m.S m.E).1,none,(q3A (q1v (q0i σ n l f).2 m.S m.E).2 n).2)
  else match q4g (q1v (q0i σ n l f).2 m.S m.E).2 n with
  |(none,e,τ)=>(e,none,τ)
  |(some L,_,τ)=>(0,some L,τ)):=η rfl
 obtain⟨r1,l0⟩: ∃r1,q0i σ n l f=r1:=⟨_,rfl⟩
 rw[l0] at HM G;rw[l0];obtain⟨c1,σ1⟩:=r1;simp only at HM G;simp only;clear hd l0 d0 d5 p0 p1 p2 p3 N g0;by_cases h1:c1=0
 case neg=>
  have J:Hd (q2q σ m n l f=(c1,none,(q3A σ1 n).2)):=η (by rw[HM.o,ξ h1]);have g1:(c1==0)=false:=by simpa using h1
  have g2:(c1 !=0)=true:=by simpa using h1
  clear HM h1;obtain⟨d0,d5,p0,p1,p2,p3⟩:=G.o.cells;have HD:=η (z8L G.o.i.i.d n);go_wp2_with fail;refine HD.o.mono ?_;rintro e w9 ⟨rfl,O⟩;have j0:=η (G.o.disk O);clear O HD;go_wp2_with fail;go_ret;refine⟨f,f1,f2,by rw[J.o];rfl,?_⟩;rw[J.o];exact j0.o.fin
 case pos=>
 subst h1;obtain⟨d0,d5,p0,p1,p2,p3⟩:=G.o.cells;have h0:=HM.o;rw[κ (fun h=>h rfl)] at h0;have I:=η h0;have a0:=η (G.o.grow (Ext.refl w2).drew);clear HM h0;go_wp2_with fail;refine q4n 5 (by kernel_rfl) (by kernel_rfl) ?_;simp only[List.take_succ_cons,List.take_zero,List.drop_succ_cons,List.drop_zero]
 repeat still_step
 refine wpStill_nil ?_;go_wp2_with fail;obtain⟨_,_,e0,Q⟩:=a0.o.man.lev.grid
 cases e0;refine(y3x a0.o.i.i.d Q (by omega) K0.o x0 y0 (S:=m.S) (E:=m.E) rfl ?_).mono ?_
 ·have:=m.S_le;omega
 rintro e w3 ⟨rfl,o0⟩;have r:=η (a0.o.disk o0);obtain⟨r2,c0⟩: ∃r2,q1v σ1 m.S m.E=r2:=⟨_,rfl⟩
 rw[c0] at I r;rw[c0];obtain⟨c2,B0⟩:=r2;simp only at I r;simp only;have D0:Hd (c2=0->m.E=0):=η fun h=>y2W (h▸c0)
 clear c0 o0 d0 d5 p0 p1 p2 p3 a0 Q;by_cases h2:c2=0
 case neg=>
  have J:Hd (q2q σ m n l f=(c2,none,(q3A B0 n).2)):=η (by rw[I.o,ξ h2]);have g2:(c2 !=0)=true:=by simpa using h2
  clear I h2;obtain⟨d0,d5,p0,p1,p2,p3⟩:=r.o.cells;have HD:=η (z8L r.o.i.i.d n);go_wp2_with fail;refine HD.o.mono ?_;rintro e w9 ⟨rfl,O⟩;have j0:=η (r.o.disk O);clear O HD;go_wp2_with fail;go_ret;refine⟨f,f1,f2,by rw[J.o];rfl,?_⟩;rw[J.o];exact j0.o.fin
 case pos=>
 subst h2;have Z:=I.o;rw[κ (fun h=>h rfl)] at Z;obtain⟨d0,d5,p0,p1,p2,p3⟩:=r.o.cells;have HO:=η (z8M r.o.i.i.d n);obtain⟨r3,R⟩: ∃r3,q4g B0 n=r3:=⟨_,rfl⟩
 rw[R] at Z HO;obtain⟨o,c3,C0⟩:=r3;have X:=η Z;clear I Z
 cases o with
 | none=>
  have J:Hd (q2q σ m n l f=(c3,none,C0)):=X;have g2:(c3 !=0)=true:=by simpa using z0h R
  clear R X;go_wp2_with fail;refine HO.o.mono ?_;rintro e w4 ⟨rfl,y⟩;have q:=η (r.o.disk y);clear y;go_wp2_with fail;go_ret;refine⟨f,f1,f2,by rw[J.o];rfl,?_⟩;rw[J.o];exact q.o.fin
 | some L=>
  have J:Hd (q2q σ m n l f=(0,some L,C0)):=X;obtain rfl:=q9e R;clear R X;go_wp2_with fail;refine HO.o.mono ?_;rintro e w5 ⟨t,may,T,w4,rfl,y,A0,z0,hT⟩;have q:=η ((r.o.disk y).grow A0);have I0:=η z0;have b0:Hd (∀i,T i->w4.heap.size<=i):=η hT;have G0:Hd (∀i,(K i\/V i\/i=p)->i<w4.heap.size):=η fun i j=>((r.o.disk y).i.k i j).1
  have F0:=η (r.o.disk y).i.i.d.Flt;have L0:=η (r.o.disk y).i.i.x.xlt;have J0:=η (r.o.disk y).i.ext.size;clear y A0 z0 hT HO d0 d5 p0 p1 p2 p3;go_wp2_with fail;obtain⟨v',U0,vm,D,nn,j⟩:=q.o.ixi;obtain⟨d0,d5,p0,p1,p2,p3⟩:=q.o.cells;have N0:(Lit.int .i64 n).wf=true:=WalkArith.wf_i64 (by omega);have x1:=j.c1;have x2:=j.c2;have x3:=j.c3;have x4:=j.c4;have x7:=j.c7;have z1:w5.frozen? ⟨gx,1,none⟩=false:=j.blk.free 1;have z2:w5.frozen? ⟨gx,2,none⟩=false:=j.blk.free 2;have z3:w5.frozen? ⟨gx,3,none⟩=false:=j.blk.free 3;have z4:w5.frozen? ⟨gx,4,none⟩=false:=j.blk.free 4;obtain⟨a',k',P0⟩:=j.lev.own.slice;subst P0;have S0:=q.o.i.i.x.1.c;have T0:=j.cnt
  obtain⟨v0,sn,W1,W2,hE,hS,hO,hF⟩:=z8F (w:=((((w5.setCell ⟨gx,1,none⟩ (.int .i64 m.nx)).setCell ⟨gx,2,none⟩ (.int .i64 m.ck)).setCell ⟨gx,3,none⟩ (.int .u64 m.sd)).setCell ⟨gx,4,none⟩ (.slice av m.L.length kv)).drew) (q2I j.map (by
   show(((((w5.setCell ⟨gx,1,none⟩ (.int .i64 m.nx)).setCell ⟨gx,2,none⟩ (.int .i64 m.ck)).setCell ⟨gx,3,none⟩ (.int .u64 m.sd)).setCell ⟨gx,4,none⟩ (.slice av m.L.length kv))).heap[gt]? =_
   rw[Below.heap_setCell _ _ _ _ j.ne.2.1.symm,Below.heap_setCell _ _ _ _ j.ne.2.1.symm,Below.heap_setCell _ _ _ _ j.ne.2.1.symm,Below.heap_setCell _ _ _ _ j.ne.2.1.symm])) (by unfold maxLen;omega) N0 t
  have HI:=η j;have H0:=η hO;have E0:=η hF;clear j hO hF
  go_region
  go_wp2_with fail;go_ret;refine⟨f,f1,f2,by rw[J.o];rfl,?_⟩;rw[J.o];obtain⟨M0,t0⟩:=HI.o.putT q.o.man H0.o E0.o I0.o (fun i j=>⟨(q.o.i.k i (.inr (.inl j))).1,(q.o.i.k i (.inr (.inl j))).2.2.1⟩) (fun i j hx=>by have:=b0.o i j;have:=L0.o i hx;omega);have u0:=q.o.i.i.x.1;have r0:IxY W2 gx g gm gt (st.put m n ⟨t,L,may⟩) (fun i=>Y i\/V i\/T i):=⟨⟨⟨Man.E_ok (D0.o (by trivial)),x0,y0⟩,u0.mem,Nat.succ_le_of_lt hc⟩,_,_,_,_,_,M0⟩
  ·obtain⟨q1,q2⟩:=q.o.i.turnV r0 t0 (K:=K) (fun i j=>by
    rcases j with j|j|j
    ·exact⟨q.o.i.bY i j,fun hf=>(q.o.i.i.ap i hf).2 j⟩
    ·exact⟨(n0 i j).1,(q.o.i.k i (.inr (.inl j))).2.1⟩
    ·exact⟨by have:=b0.o i j;have:=J0.o;omega,fun hf=>by have:=b0.o i j;have:=F0.o i hf;omega⟩) (fun i j=>⟨.inl j,fun hy=>by
    rcases hy with hy|hy|hy
    ·exact(q.o.i.k i (.inl j)).2.2.2 hy
    ·exact(n0 i hy).2 j
    ·have:=b0.o i hy;have:=G0.o i (.inl j);omega⟩)
   exact⟨t,may,⟨_,_,_,_,q1⟩,q.o.stay.trans q2⟩
end
def Man.add(m:Man)(L2:List (List Int))(e:Int):Man:=⟨m.nx+1,e,m.sd,L2⟩
def z1H(wb w:World)(g gx:Nat)(st:IxSt)(σ:DM)(en:Int)(K:Nat->Prop)(r:Ending)(w':World):Prop:=
 (st.w=[]/\r= .returned (.int .i64 0)/\IxK wb w' g gx st σ K/\Stay K w w')\/
 (st.w≠[]/\(addS st.m.L st.m.nx).2≠0/\r= .returned (.int .i64 (addS st.m.L st.m.nx).2)/\IxK wb w' g gx st σ K/\Stay K w w')\/
 (st.w≠[]/\(addS st.m.L st.m.nx).2=0/\ ∃f:List UInt8,128<=f.length/\f.length<=64*(st.w.length/20+2)/\r= .returned (.int .i64 (q2q σ (st.m.add (addS st.m.L st.m.nx).1 en) st.m.nx st.w f).1)/\
  match (q2q σ (st.m.add (addS st.m.L st.m.nx).1 en) st.m.nx st.w f).2.1 with
  |none=>IxK wb w' g gx st (q2q σ (st.m.add (addS st.m.L st.m.nx).1 en) st.m.nx st.w f).2.2 K/\Stay K w w'
  |some L=> ∃b may,IxK wb w' g gx {st.put (st.m.add (addS st.m.L st.m.nx).1 en) st.m.nx ⟨b,L,may⟩ with w:=[]} (q2q σ (st.m.add (addS st.m.L st.m.nx).1 en) st.m.nx st.w f).2.2 K/\Stay K w w')
theorem z3x{L:List (List Int)}{x:Int}(h:(addS L x).2=0):¬x∈L.flatten/\L.length<=5/\(addS L x).1=q5X L x/\(∀y,y∈(addS L x).1.flatten↔y∈L.flatten\/y=x)/\(addS L x).1.flatten.length<=41:=by
 by_cases h1:q1E L=false\/x<0\/x∈L.flatten
 ·rw[z3w L x h1] at h;cases h
 by_cases h2:40<=L.flatten.length
 ·rw[z1L L x h1 h2] at h;cases h
 have d:L.length<=5:=by
  have d:q1E L=true:=by
   cases d:q1E L with
   |true=>rfl
   |false=>exact absurd (.inl d) h1
  unfold q1E at d;simp only[Φ] at d;exact d.1
 rw[z6b L x h1 h2];have i:=z1K L x d;refine⟨fun j=>h1 (.inr (.inr j)),d,rfl,fun y=>?_,?_⟩
 ·rw[i.mem_iff,List.mem_append,Γ]
 ·have:=i.length_eq
  rw[θ,List.length_singleton] at this;show(q5X L x).flatten.length<=41;omega
section
variable {wb w w1 w2:World}{g gx gm gt:Nat}{st st1:IxSt}{F Y Y1 K K' V:Nat->Prop}{σ σ1:DM}
theorem IxK.clear(h:IxK wb w g gx st σ K){f:FuncId}{P:Program}{args:Nat->Array Value}(hc: ∀m v L,MemI w m v L->Calls P f (args m) w fun r w'=>r= .returned (.tuple #[])/\MemI w' m (.slice none 0 0) []/\OffS (fun i=>i=m) w w'):
  ∃m,w.cell? ⟨gx,6,none⟩=some (.pointer (some ⟨m,0,none⟩))/\Calls P f (args m) w fun r w'=>r= .returned (.tuple #[])/\IxK wb w' g gx {st with w:=[]} σ K/\Stay K w w':=by
 obtain⟨F,gm,gt,Y,h1⟩:=h;obtain⟨o,v,vs,vm,D,nn,d⟩:=h1.i.x;refine⟨gm,d.c6,(hc _ _ _ d.mem).mono ?_⟩;rintro r w' ⟨rfl,hm,j⟩;have q:IxY w' gx g gm gt {st with w:=[]} (fun i=>Y i\/(Value.slice none 0 0).ownBlock=some i):=⟨⟨o.man,okM.nil,o.c⟩,v,vs,_,D,nn,d.memTurn hm j (.inr fun i d=>by cases d)⟩
 obtain⟨y,G⟩:=h1.turn q (j.mono fun i _ d=> .inr (.inl d)) (fun i d=>by
  rcases d with d|d
  ·exact .inl d
  ·cases d)
 exact⟨rfl,⟨_,_,_,_,y⟩,G⟩
theorem z7h(h0:IxY w gx g gm gt st Y){gl:Nat}{P:DM->World->Prop}
  (R0:Calls Tryz.prog 105 #[.pointer (some ⟨gl,0,none⟩)] w fun e w1=>e= .returned (.int .i64 0)/\ ∃σ,IxK wb w1 g gx st σ K/\P σ w1)
  (m0: ∀σ w1 W,P σ w1->Ext w1 W->Calls Tryz.prog 140 #[.pointer (some ⟨gl,0,none⟩)] W fun e w'=>e= .returned (.int .i64 en)/\W=w')
  (hw:st.w.length<=1000)(hc:st.c<1000000):
  Calls Tryz.prog 107 #[.pointer (some ⟨gx,0,none⟩),.pointer (some ⟨gl,0,none⟩)] w fun e w'=> ∃σ w1,P σ w1/\z1H wb w1 g gx st σ en K e w':=by
 have HN:=η (q8U h0);have J0:=η R0;have d1:=η m0;clear h0 R0 m0;go_enter Tryz.func107,Tryz.ntmps107;go_wp2_with fail;refine HN.o.mono ?_;rintro e w1 ⟨rfl,rfl⟩;go_wp2_with fail;refine J0.o.mono ?_;rintro e w1 ⟨rfl,σ,hk,hp⟩;have HP:=η hp;have HK:=η hk;obtain⟨F1,x0,O0,Y1,h1⟩:=hk;have H1:=η h1;have l1:=h1.i.x;obtain⟨U0,v,vs,vm,D,nn,d⟩:=l1;have HL:=η (y3Z d.mem);have c6:=d.c6;have HI:=η d;have g0:=η U0;clear hp h1 d U0 HN J0;by_cases h2:st.w=[]
 ·have g1:((st.w.length:Int)==0)=true:=by rw[h2];rfl
  have HE:Hd (z1H wb w1 g gx st σ en K (.returned (.int .i64 0)) w1):=η (.inl ⟨h2,rfl,HK.o,Stay.refl _ _⟩);clear h2;go_wp2_with fail;refine HL.o.mono ?_;rintro e w2 ⟨rfl,rfl⟩;go_wp2_with fail;go_ret;exact⟨_,_,HP.o,HE.o⟩
 ·have g1:((st.w.length:Int)==0)=false:=by
   have:0<st.w.length:=Nat.pos_of_ne_zero fun h=>h2 (List.eq_nil_of_length_eq_zero h)
   rw[beq_eq_false_iff_ne];omega
  obtain⟨av,kv,rfl,S0⟩:=HI.o.grid;have Q:=Man.bounds g0.o.man;have c1:=HI.o.c1;have c2:=HI.o.c2;have c3:=HI.o.c3;have c4:=HI.o.c4;have G0:=η (z0G st.m.nx st.m.ck st.m.sd av st.m.L.length kv st.m.L w1 S0 (fun i=>by have:=Q.2.2.1 i;omega) (by omega));have X:=η Q;have p0:=η h2;clear S0 Q h2;go_wp2_with fail;refine HL.o.mono ?_;rintro e w2 ⟨rfl,rfl⟩;go_wp2_with fail;refine G0.o.mono ?_;rintro e w2 ⟨v2,u1,rfl,D0,hb⟩;have N0:=η hb;have p1:=η D0;obtain⟨a2,k2,rfl,n0⟩:=D0.grid;have J:=η (fun W (k:Ext w2 W)=>y4S a2 st.m.L.length k2 st.m.L st.m.nx W (n0.ext k) (by have:=X.o.2.1;omega) (by have:=X.o.1;omega) (fun x hx=>(X.o.2.2.2.1 x hx).1));clear hb D0 n0 G0 HL;go_wp2_with fail;have o0:Hd (Blk (w2.alloc (.cells #[.int .i64 st.m.nx,.int .i64 st.m.ck,.int .u64 st.m.sd,.slice a2 st.m.L.length k2] 47)) w2.heap.size 47 #[.int .i64 st.m.nx,.int .i64 st.m.ck,.int .u64 st.m.sd,.slice a2 st.m.L.length k2]):=η (Blk.new _ _ _);have v0:=η (q0C w2 (.cells #[.int .i64 st.m.nx,.int .i64 st.m.ck,.int .u64 st.m.sd,.slice a2 st.m.L.length k2] 47));have q0:Hd ((w2.alloc (.cells #[.int .i64 st.m.nx,.int .i64 st.m.ck,.int .u64 st.m.sd,.slice a2 st.m.L.length k2] 47)).heap.size=w2.heap.size+1):=η (ρ _ _);obtain⟨wB,F0⟩: ∃wB,w2.alloc (.cells #[.int .i64 st.m.nx,.int .i64 st.m.ck,.int .u64 st.m.sd,.slice a2 st.m.L.length k2] 47)=wB:=⟨_,rfl⟩
  obtain⟨y,e0⟩: ∃y,w2.heap.size=y:=⟨_,rfl⟩
  have j1:=η e0;rw[F0] at o0 v0 q0;rw[e0] at o0 q0;simp only[F0,e0];clear F0 e0;refine(J.o _ v0.o).mono ?_;rintro e R ⟨v3,X0,rfl,d0,B0⟩;obtain⟨a3,k3,rfl,T0⟩:=d0.grid;have S:=η ((N0.o.trans v0.o).trans B0);have N:=η (o0.o.ext B0);have G:=η d0;obtain⟨r,U⟩: ∃r,addS st.m.L st.m.nx=r:=⟨_,rfl⟩
  have HR:=η U;rw[U] at G;rw[U];obtain⟨O,er⟩:=r;simp only at G;simp only;clear d0 T0 B0 U J c1 c2 c3 c4;by_cases l0:er=0
  case neg=>
   have g2:(er !=0)=true:=by simpa using l0
   have HE:Hd (z1H wb w1 g gx st σ en K (.returned (.int .i64 er)) R):=η (.inr (.inl ⟨p0.o,by rw[HR.o];exact l0,by rw[HR.o],HK.o.grow S.o,HK.o.kExt S.o⟩));clear l0;go_wp2_with fail;go_ret;exact⟨_,_,HP.o,HE.o⟩
  case pos=>
  subst l0;have a1:=η (d1.o _ w1 R HP.o S.o);have b0:R.cell? ⟨y,0,none⟩=some (.int .i64 st.m.nx):=N.o.cell 0;have b1:R.cell? ⟨y,1,none⟩=some (.int .i64 st.m.ck):=N.o.cell 1;have b2:R.cell? ⟨y,2,none⟩=some (.int .u64 st.m.sd):=N.o.cell 2;have b3:R.cell? ⟨y,3,none⟩=some (.slice a2 st.m.L.length k2):=N.o.cell 3;have f0:R.frozen? ⟨y,0,none⟩=false:=N.o.free 0;have f1:R.frozen? ⟨y,1,none⟩=false:=N.o.free 1;have f3:R.frozen? ⟨y,3,none⟩=false:=N.o.free 3;have q1:IntKind.i64.wrap (st.m.nx+1)=st.m.nx+1:=by have:=X.o.2.2.2.2;rw[ν];omega
  go_wp2_with fail;refine a1.o.mono ?_;rintro e w4 ⟨rfl,rfl⟩;go_wp2_with fail;have V0:=N.o.lt;have n1:=N0.o.size;have e0:=j1.o;have o1:=q0.o;obtain⟨V,hV⟩: ∃V:Nat->Prop,V=fun i=>((Value.slice a3 O.length k3).ownBlock=some i\/ ∃q,(X0.getD q (.slice none 0 0)).ownBlock=some i):=⟨_,rfl⟩
  have A0: ∀i,V i->wB.heap.size<=i/\i<R.heap.size:=fun i d=>q7M G.o i (by rw[hV] at d;exact d)
  have j:OffS (fun i=>i=y) R (((R.setCell ⟨y,3,none⟩ (.slice a3 O.length k3)).setCell ⟨y,0,none⟩ (.int .i64 (st.m.nx+1))).setCell ⟨y,1,none⟩ (.int .i64 en)):=
   ((OffS.set (F:=fun i=>i=y) R rfl 3 (.slice a3 O.length k3)).trans (OffS.set (F:=fun i=>i=y) _ rfl 0 (.int .i64 (st.m.nx+1)))).trans (OffS.set (F:=fun i=>i=y) _ rfl 1 (.int .i64 en))
  have I:Blk (((R.setCell ⟨y,3,none⟩ (.slice a3 O.length k3)).setCell ⟨y,0,none⟩ (.int .i64 (st.m.nx+1))).setCell ⟨y,1,none⟩ (.int .i64 en)) y 47 #[.int .i64 (st.m.nx+1),.int .i64 en,.int .u64 st.m.sd,.slice a3 O.length k3]:=
   ((N.o.set 3 (.slice a3 O.length k3)).set 0 (.int .i64 (st.m.nx+1))).set 1 (.int .i64 en)
  obtain⟨w4,E0⟩: ∃w4,((R.setCell ⟨y,3,none⟩ (.slice a3 O.length k3)).setCell ⟨y,0,none⟩ (.int .i64 (st.m.nx+1))).setCell ⟨y,1,none⟩ (.int .i64 en)=w4:=⟨_,rfl⟩
  rw[E0] at j I;simp only[E0];have z0:IxF wb R g F1 σ gx x0 O0 st Y1 (fun i=>(K i\/i=y)\/V i):=H1.o.more S.o fun i d=>by
   rcases d with(d|d)|d
   ·exact .inl d
   ·exact .inr ⟨by omega,by rw[d];exact V0⟩
   ·have:=A0 i d;exact .inr ⟨by omega,this.2⟩
  have Z:IxF wb w4 g F1 σ gx x0 O0 st Y1 (fun i=>(K i\/i=y)\/V i):=z0.side j.size (j.ext z0.ext fun i d=>by rw[d];have:=H1.o.ext.size;omega) fun i d hn=>j.block i d fun e=>hn (.inl (.inr e))
  have c0:ManV w4 (st.m.add O en) (.slice a3 O.length k3) X0 V:=⟨q3U (q7k G.o (υ _)) fun i d=>j.block i (q7M G.o i d).2 (fun e=>by have:=(q7M G.o i d).1;omega),fun i d=>by rw[hV];exact d⟩
  have i1:Hd (∀i,V i->wb.heap.size<=i/\¬(K i\/i=y)):=η fun i d=>by
   have h1:=A0 i d;have h2:=H1.o.ext.size;refine⟨by omega,?_⟩;rintro(h3|h3)
   ·have:=(H1.o.k i h3).1;omega
   ·omega
  have L0:Hd (Stay K w1 w4):=η fun i d=>by
   have h1:=(H1.o.k i d).1;rw[j.block i (Ψ h1 S.o.size) (by omega),S.o.block i h1]
  obtain⟨_,v4,x1,t1,D4,s1,C0⟩:=Z.i.x;have HC:Hd (∀W,Ext w4 W->(W.cell? ⟨y,0,none⟩=some (.int .i64 (st.m.nx+1))/\W.cell? ⟨y,1,none⟩=some (.int .i64 en)/\W.cell? ⟨y,2,none⟩=some (.int .u64 st.m.sd)/\W.cell? ⟨y,3,none⟩=some (.slice a3 O.length k3))/\W.cell? ⟨gx,6,none⟩=some (.pointer (some ⟨x0,0,none⟩))):=η fun W hW=>
   ⟨⟨(I.ext hW).cell 0,(I.ext hW).cell 1,(I.ext hW).cell 2,(I.ext hW).cell 3⟩,(C0.ext hW).c6⟩
  have H0:=η (fun W (k:Ext w4 W)=>y1u (C0.mem.ext k) (by omega));have e1:=η Z;have m1:=η c0;have Q:=X.o;have j0:=z3x (L:=st.m.L) (x:=st.m.nx) (by rw[HR.o]);rw[HR.o] at j0
  have M0:Hd (∀W (k:Ext w4 W) (ae:Option Addr) (ce:Nat),Ens W ae st.w.length ce st.w->Calls Tryz.prog 171 #[.pointer (some ⟨gx,0,none⟩),.agg #[.int .i64 (st.m.nx+1),.int .i64 en,.int .u64 st.m.sd,.slice a3 O.length k3],.int .i64 st.m.nx,.slice ae st.w.length ce] W fun e w'=>
   ∃f:List UInt8,128<=f.length/\f.length<=64*(st.w.length/20+2)/\e= .returned (.int .i64 (q2q σ (st.m.add O en) st.m.nx st.w f).1)/\y2s wb W g gx st (st.m.add O en) st.m.nx (fun i=>K i\/i=y) V (q2q σ (st.m.add O en) st.m.nx st.w f) w'):=η fun W k ae ce he=>
   y4D (m:=st.m.add O en) (Z.grow k) (c0.same fun i d=>Z.kExt k i (.inr d)) i1.o ⟨Q.2.2.2.2.1,Q.2.2.2.2.2.1⟩ he hw g0.o.mem.ok (fun x hx=>by
    rcases(j0.2.2.2.1 x).1 hx with h|h
    ·exact(Q.2.2.2.1 x h).1
    ·rw[h];exact WalkArith.wf_i64 (by omega)) (by have:=j0.2.2.2.2;show O.flatten.length<=1000;simp only at this;omega) g0.o.man.2.1 g0.o.man.2.2 hc
  have t0:=η (Ext.drew (Ext.refl w4));clear j I z0 Z c0 C0 Q j0 b0 b1 b2 b3 f0 f1 f3 A0 E0 hV;obtain⟨⟨y0,y1,y2,y3⟩,y6⟩:=HC.o _ t0.o
  go_region_law (go_simp;first|(go_at_call 172;refine(H0.o _ t0.o).mono ?_;rintro e w5 ⟨v5,rfl,W0,P0⟩;obtain⟨ae,ce,rfl,a0⟩:=Ens.of_own (Own.of_row W0);have u0:=η (t0.o.trans P0);have I0:=η a0;obtain⟨⟨r0,r1,r2,r3⟩,r6⟩:=HC.o _ u0.o;clear W0 P0 a0)|(go_at_call 171;refine(M0.o _ u0.o _ _ I0.o).mono ?_;rintro e w6 ⟨f,f1,f2,rfl,hT⟩;have s0:=η hT;clear hT))
  all_goals
   have K0:Hd (Stay K w1 w5):=η (L0.o.trans fun i d=>e1.o.kExt u0.o i (.inl (.inl d)));clear M0 H0 HC I0 y0 y1 y2 y3 y6 r0 r1 r2 r3 r6;obtain⟨r,U⟩: ∃r,q2q σ (st.m.add O en) st.m.nx st.w f=r:=⟨_,rfl⟩
   have i0:=η U;rw[U] at s0;simp only[U];obtain⟨c,o,τ⟩:=r;have J:Hd ((addS st.m.L st.m.nx).1=O/\(addS st.m.L st.m.nx).2=0):=η (by rw[HR.o];exact⟨rfl,rfl⟩)
   cases o with
   | none=>
    have g2:(c !=0)=true:=by simpa using z6N U
    have HE:Hd (z1H wb w1 g gx st σ en K (.returned (.int .i64 c)) w6):=η (.inr (.inr ⟨p0.o,J.o.2,f,f1,f2,by rw[J.o.1,i0.o],by
     rw[J.o.1,i0.o];have h:=s0.o
     exact⟨h.1.beside fun i d=> .inl d,K0.o.trans fun i d=>h.2 i (.inl d)⟩⟩))
    clear U;go_wp2_with fail;go_ret;exact⟨_,_,HP.o,HE.o⟩
   | some L=>
    obtain rfl:=z6O U;obtain⟨b,may,hk,hs⟩:=s0.o;obtain⟨m6,c6,Q0⟩:=(hk.beside (K':=K) fun i d=> .inl d).clear (f:=173) (P:=Tryz.prog) (args:=fun m=>#[.pointer (some ⟨m,0,none⟩)]) (fun m v L h=>y0K h);have Y0:=η Q0;have k1:Hd (Stay K w1 w6):=η (K0.o.trans fun i d=>hs i (.inl d))
    have HE:Hd (∀W,IxK wb W g gx {st.put (st.m.add O en) st.m.nx ⟨b,L,may⟩ with w:=[]} τ K->Stay K w6 W->z1H wb w1 g gx st σ en K (.returned (.int .i64 0)) W):=η fun W h1 h2=> .inr (.inr ⟨p0.o,J.o.2,f,f1,f2,by rw[J.o.1,i0.o],by
     rw[J.o.1,i0.o]
     exact⟨b,may,h1,k1.o.trans h2⟩⟩)
    clear U hk hs Q0;go_wp2_with fail;refine Y0.o.mono ?_;rintro e w7 ⟨rfl,h7,h8⟩;have Z0:=η (HE.o _ h7 h8);clear h7 h8;go_wp2_with fail;go_ret;exact⟨_,_,HP.o,Z0.o⟩
end
section
variable {wb w0 w W W1 w1 w2:World}{g gx gm gt B:Nat}{st st1:IxSt}{F Y Y1 K K' V T:Nat->Prop}{σ σ1:DM}{va v v1 v2 vm:Value}{vs:List Value}{ns:List Int}{acc:List (List En)}{M L:List En}
end
end
section
open Go.RowKit
theorem z0t : ∀{a b:List En},q1G a->q1G b->(∀x∈a,x∈b)->a.Sublist b
 |[],b,_,_,_=>List.nil_sublist b
 |x::a,[],_,_,h=>absurd (h x (.head _)) (by simp)
 | x :: a,y::b,ha,hb,h=>by
  obtain⟨h1,h2⟩:=List.pairwise_cons.1 ha;obtain⟨h3,h4⟩:=List.pairwise_cons.1 hb;rcases List.mem_cons.1 (h x (.head _)) with e|q
  ·subst e
   refine(z0t h2 h4 fun z i=>?_).cons_cons x;rcases List.mem_cons.1 (h z (.tail _ i)) with e|d
   ·have:=h1 z i
    rw[e,q0j] at this;cases this
   ·exact d
  ·refine(z0t ha h4 fun z i=>?_).cons y
   rcases List.mem_cons.1 (h z i) with e|d
   ·rcases List.mem_cons.1 i with r|j
    ·rw[r];exact q
    ·have o:=h1 z j
     have G:=h3 x q;rw[e] at o;have:=q1a o G;rw[q0j] at this;cases this
   ·exact d
theorem q5I{a b:List En}(d:q1G a)(i:q1G b)(h: ∀x∈a,x∈b):a.length<=b.length:=(z0t d i h).length_le
def TL(st:IxSt)(n:Int):List En:=match st.t n with|some e=>e.L|none=>[]
theorem q3b{st:IxSt}(h:st.t n=some e):TL st n=e.L:=by unfold TL;rw[h]
structure PInv(st:IxSt)(σ:DM)(c s:Int)(φ:Fls)(u cnt:Nat)(B:List En):Prop where
 fl:Fl σ c s φ u cnt
 man:st.m.ok
 full:st.full
 tb: ∀n e,st.t n=some e->n∈st.m.L.flatten/\φ (q0B 116 n)=some (q3V e.L)/\(∃y,φ (q0B 98 n)=some y)/\okM e.L/\ ∀x∈e.L,e.may x.1=true
 only: ∀nm,φ nm≠none->nm=mapN\/(∃n∈st.m.L.flatten,nm=q0B 116 n\/nm=q0B 98 n)\/ ∃k:Nat,k<=999999/\nm=q0B 99 (k:Int)
 okw:okM st.w
 okB:okM B
 mem: ∀x,x∈B↔x∈st.w\/ ∃n e,st.t n=some e/\x∈e.L
section
variable {st :IxSt}{σ σ':DM}{c s:Int}{φ:Fls}{u cnt:Nat}{B:List En}
theorem PInv.grow(h:PInv st σ c s φ u cnt B):GrowI st.m.L st.m.nx.toNat:=by
 have i:=Man.bounds h.man;have d:=h.man.1;unfold q0e at d;simp only[Ξ] at d;exact⟨d.1.2,fun x j=>by have:=i.2.2.2.1 x j;omega⟩
theorem PInv.range(h:PInv st σ c s φ u cnt B)(i:n∈st.m.L.flatten):0<=n/\n<=999999/\n<st.m.nx:=by
 have d:=Man.bounds h.man;have:=d.2.2.2.1 n i;omega
theorem PInv.tell(h:PInv st σ c s φ u cnt B)(k:Nat):PInv st (tellN k σ) c s φ u cnt B:=⟨Fl.tells k h.fl,h.man,h.full,h.tb,h.only,h.okw,h.okB,h.mem⟩
theorem PInv.mono(h:PInv st σ c s φ u cnt B)(h1:u<=u')(h2:cnt<=cnt'):PInv st σ c s φ u' cnt' B:=⟨h.fl.mono h1 h2,h.man,h.full,h.tb,h.only,h.okw,h.okB,h.mem⟩
theorem PInv.wlen(h:PInv st σ c s φ u cnt B):st.w.length<=B.length:=q5I h.okw.sort h.okB.sort fun x d=>(h.mem x).2 (.inl d)
theorem PInv.tlen(h:PInv st σ c s φ u cnt B)(he:st.t n=some e):e.L.length<=B.length:=q5I (h.tb n e he).2.2.2.1.sort h.okB.sort fun x d=>(h.mem x).2 (.inr ⟨n,e,he,d⟩)
theorem PInv.wl(h:PInv st σ c s φ u cnt B)(he:st.t n=some e):Wl σ n e.L:=h.fl.wl (h.tb n e he).2.1
theorem PInv.add(h:PInv st σ c s φ u cnt B){x:En}(d:q3Z x=true)(i:B.length<50000):PInv {st with w:=q4G x st.w} σ c s φ u cnt (q4G x B):=by
 have j:=h.wlen;refine⟨h.fl,h.man,h.full,h.tb,h.only,h.okw.add d (by omega),h.okB.add d i,fun y=>?_⟩;show y∈q4G x B↔y∈q4G x st.w\/_;rw[mem_addE,mem_addE,h.mem y]
 constructor
 ·rintro(h1|h1|h1)
  ·exact .inl (.inl h1)
  ·exact .inl (.inr h1)
  ·exact .inr h1
 ·rintro((h1|h1)|h1)
  ·exact .inl h1
  ·exact .inr (.inl h1)
  ·exact .inr (.inr h1)
theorem z2F(h:PInv st σ c s φ u cnt B)(x a b:Int): ∀(ns:List Int) (acc:List (List En)) (k0:Nat),(∀n∈ns,n∈st.m.L.flatten)->
  ∃k,q4F st x (max a 0) (min b 1073741824) (tellN k0 σ) ns acc=(acc++ns.map (fun n=>q1A (TL st n) x (max a 0) (min b 1073741824)),0,tellN k σ)
 |[],acc,k0,_=>⟨k0,by rw[q4F];simp⟩
 | n::ns,acc,k0,hn=>by
  obtain⟨e,he⟩:=h.full n (hn n (by simp));have d:=h.tb n e he;obtain⟨k,_,_,i⟩:=z8P ((h.wl he).tellN k0) d.2.2.2.1.sort d.2.2.2.1.ok d.2.2.2.2 x (max a 0) (min b 1073741824);rw[show max (max a 0) 0=max a 0 by omega,show min (min b 1073741824) 1073741824=min b 1073741824 by omega,q3q] at i;obtain⟨o,h2⟩:=z2F h x a b ns (acc++[q1A e.L x (max a 0) (min b 1073741824)]) (k0+k) (fun y j=>hn y (by simp[j]));refine⟨o,?_⟩;rw[q4F,he];simp only;rw[i];simp only;rw[κ (fun h=>h rfl),h2,List.map_cons,q3b he,List.append_assoc]
  rfl
theorem mem_range{L:List En}{x a b:Int}{y:En}:y∈q1A L x a b↔y∈L/\y.1=x/\a<=y.2.1/\y.2.1<=b:=by
 unfold q1A;rw[List.mem_filter];simp only[Ξ,Φ]
 constructor
 ·rintro⟨h1,⟨h2,h3⟩,h4⟩;exact⟨h1,h2,h3,h4⟩
 ·rintro⟨h1,h2,h3,h4⟩;exact⟨h1,⟨h2,h3⟩,h4⟩
theorem q5P{L:List En}(h:q1G L)(x a b:Int):q1G (q1A L x a b):=h.filter _
theorem y2Q(h:PInv st σ c s φ u cnt B)(n:Int):q1G (TL st n)/\(∀x∈TL st n,q3Z x=true)/\(TL st n).length<=B.length:=by
 unfold TL
 cases he:st.t n with
 |none=>exact⟨List.Pairwise.nil,fun x d=>by simp at d,υ _⟩
 |some e=>exact⟨(h.tb n e he).2.2.2.1.sort,(h.tb n e he).2.2.2.1.ok,h.tlen he⟩
theorem z9s{L:List (List En)}(h: ∀l∈L,l.length<=k):L.flatten.length<=L.length*k:=by
 induction L with
 |nil=>simp
 | cons a r ih=>
  rw[List.flatten_cons,θ,χ,Nat.add_mul];have h1:=h a (by simp);have h2:=ih fun l d=>h l (by simp[d])
  omega
theorem PInv.rangeIs(h:PInv st σ c s φ u cnt B)(x a b:Int): ∃k R,q4F st x (max a 0) (min b 1073741824) σ st.m.L.flatten [q1A st.w x (max a 0) (min b 1073741824)]=(R,0,tellN k σ)/\(∀L∈R,q1G L)/\R.flatten.length<=41*B.length/\q3F R=q1A B x (max a 0) (min b 1073741824):=by
 obtain⟨k,e⟩:=z2F h x a b st.m.L.flatten [q1A st.w x (max a 0) (min b 1073741824)] 0 (fun n j=>j);have o: ∀L∈[q1A st.w x (max a 0) (min b 1073741824)]++st.m.L.flatten.map (fun n=>q1A (TL st n) x (max a 0) (min b 1073741824)),q1G L/\L.length<=B.length:=fun L d=>by
  rcases List.mem_append.1 d with d|d
  ·rw[List.mem_singleton.1 d]
   exact⟨q5P h.okw.sort _ _ _,Ω (List.length_filter_le _ _) h.wlen⟩
  ·obtain⟨n,j,rfl⟩:=List.mem_map.1 d
   have:=y2Q h n;exact⟨q5P this.1 _ _ _,Ω (List.length_filter_le _ _) this.2.2⟩
 refine⟨k,_,e,fun L d=>(o L d).1,?_,?_⟩
 ·have h1:=z9s fun l q=>(o l q).2
  rw[θ,List.length_map] at h1;have h2:=(Man.bounds h.man).2.1;simp only[χ,List.length_nil] at h1;have:(0+1+st.m.L.flatten.length)*B.length<=41*B.length:=Nat.mul_le_mul_right _ (by omega);omega
 ·refine q6z (q5T _) (q5P h.okB.sort _ _ _) fun y=>?_
  rw[mem_union,mem_range,h.mem y]
  constructor
  ·rintro⟨L,d,i⟩
   rcases List.mem_append.1 d with d|d
   ·rw[List.mem_singleton.1 d,mem_range] at i
    exact⟨.inl i.1,i.2⟩
   ·obtain⟨n,j,rfl⟩:=List.mem_map.1 d
    rw[mem_range] at i;obtain⟨e,he⟩:=h.full n j;rw[q3b he] at i;exact⟨.inr ⟨n,e,he,i.1⟩,i.2⟩
  ·rintro⟨h1|⟨n,e,he,h1⟩,h2⟩
   ·exact⟨_,List.mem_append.2 (.inl (List.mem_singleton.2 rfl)),mem_range.2 ⟨h1,h2⟩⟩
   ·exact⟨_,List.mem_append.2 (.inr (List.mem_map.2 ⟨n,(h.tb n e he).1,rfl⟩)),mem_range.2 ⟨by rw[q3b he];exact h1,h2⟩⟩
end
theorem q3T{c d:UInt8}(hc:q2B c=true)(i:q2B d=true){m:Int}(j:0<=n/\n<=999999)(hm:0<=m/\m<=999999)(h:q0B c n=q0B d m):c=d/\n=m:=by
 have h1:=q1m hc j;rw[h,q1m i hm] at h1;injection h1 with h1 h2;injection h2 with h2 _;exact⟨h1.symm,by omega⟩
theorem z3M :q2B 116=true:=by decide
theorem y2i :q2B 98=true:=by decide
theorem y2j :q2B 99=true:=by decide
theorem q2V(d:k<=999999):q0B 99 (k:Int)≠mapN/\q0B 99 (k:Int)≠q2J:=by
 rw[q0R (by omega)];exact⟨fun e=>absurd (List.cons.inj e).1 (by decide),fun e=>absurd (List.cons.inj e).1 (by decide)⟩
theorem q4d{c:UInt8}(hc:c=116\/c=98)(d:0<=n/\n<=999999):q0B c n≠mapN/\q0B c n≠q2J:=by
 rw[q0R d];rcases hc with rfl|rfl
 ·exact⟨fun e=>absurd (List.cons.inj e).1 (by decide),fun e=>absurd (List.cons.inj e).1 (by decide)⟩
 ·exact⟨fun e=>absurd (List.cons.inj e).1 (by decide),fun e=>absurd (List.cons.inj e).1 (by decide)⟩
section
variable {st :IxSt}{σ σ':DM}{c s:Int}{φ:Fls}{u cnt:Nat}{B:List En}
theorem PInv.fresh(h:PInv st σ c s φ u cnt B)(i:0<=n/\n<=999999)(o:n∉st.m.L.flatten):φ (q0B 116 n)=none/\φ (q0B 98 n)=none:=by
 have q: ∀d:UInt8,d=116\/d=98->φ (q0B d n)=none:=fun d hc=>by
  cases he:φ (q0B d n) with
  |none=>rfl
  | some y=>
   exfalso
   have j:q2B d=true:=by rcases hc with rfl|rfl<;>decide
   rcases h.only (q0B d n) (by rw[he];simp) with e|⟨m,hm,e|e⟩|⟨k,I,e⟩
   ·exact(q4d hc i).1 e
   ·have G:=h.range hm
    exact o ((q3T j z3M i (by omega) e).2▸hm)
   ·have G:=h.range hm
    exact o ((q3T j y2i i (by omega) e).2▸hm)
   ·have r:=(q3T j y2j i (by omega) e).1
    rcases hc with rfl|rfl<;>exact absurd r (by decide)
 exact⟨q 116 (.inl rfl),q 98 (.inr rfl)⟩
theorem PInv.noNew(h:PInv st σ c s φ u cnt B):φ q2J=none:=by
 cases he:φ q2J with
 |none=>rfl
 | some y=>
  exfalso
  rcases h.only q2J (by rw[he];simp) with e|⟨m,hm,e|e⟩|⟨k,d,e⟩
  ·exact new_ne_map e
  ·have i:=h.range hm
   exact(q4d (.inl rfl) (show 0<=m/\m<=999999 by omega)).2 e.symm
  ·have i:=h.range hm
   exact(q4d (.inr rfl) (show 0<=m/\m<=999999 by omega)).2 e.symm
  ·exact(q2V d).2 e.symm
def q6d(φ:Fls)(n:Int)(f tab S:List UInt8):Fls:=q5u (q5u (q5u φ (q0B 98 n) f) (q0B 116 n) tab) mapN S
theorem z8r(φ:Fls)(d:0<=n/\n<=999999)(f tab S:List UInt8):q6d φ n f tab S (q0B 116 n)=some tab/\q6d φ n f tab S (q0B 98 n)=some f:=by
 unfold q6d q5u;refine⟨?_,?_⟩
 ·simp[(q4d (.inl rfl) d).1]
 ·simp[(q4d (.inr rfl) d).1,(q5o n n d d).symm]
theorem z8s(φ:Fls){m:Int}(i:0<=n/\n<=999999)(hm:0<=m/\m<=999999)(d:m≠n)(f tab S:List UInt8):q6d φ n f tab S (q0B 116 m)=φ (q0B 116 m)/\q6d φ n f tab S (q0B 98 m)=φ (q0B 98 m):=by
 unfold q6d q5u;rw[κ (q4d (.inl rfl) hm).1,κ (fun e=>d (q3T z3M z3M hm i e).2),κ (q5o m n hm i),κ (q4d (.inr rfl) hm).1,κ (fun e=>(q5o n m i hm) e.symm),κ (fun e=>d (q3T y2i y2i hm i e).2)];exact⟨rfl,rfl⟩
theorem z6M{φ:Fls}{tab S nm:List UInt8}(h:q6d φ n f tab S nm≠none):nm=mapN\/nm=q0B 116 n\/nm=q0B 98 n\/φ nm≠none:=by
 unfold q6d q5u at h;by_cases h1:nm=mapN
 ·exact .inl h1
 ·rw [κ h1] at h
  by_cases h2:nm=q0B 116 n
  ·exact .inr (.inl h2)
  ·rw [κ h2] at h
   by_cases h3:nm=q0B 98 n
   ·exact .inr (.inr (.inl h3))
   ·rw[κ h3] at h
    exact .inr (.inr (.inr h))
theorem PInv.flush(h:PInv st σ c s φ u cnt B){i:List (List Int)}(U:addS st.m.L st.m.nx=(i,0))(O:0<=en/\en<=2147483647)(b0:st.m.nx<1000000)(X:cnt<397):
  (∃ σ',q2q σ (st.m.add i en) st.m.nx st.w f=(0,some st.w,σ')/\ ∀b may,(∀x∈st.w,may x.1=true)->
   PInv {st.put (st.m.add i en) st.m.nx ⟨b,st.w,may⟩ with w:=[]} σ' c s (q6d φ st.m.nx f (q3V st.w) (st.m.add i en).S) (u+f.length+(q3V st.w).length+300) (cnt+3) B)\/
   ∃σ',q2q σ (st.m.add i en) st.m.nx st.w f=(60,none,σ')/\PInv st σ' c s φ (u+f.length+(q3V st.w).length+300) (cnt+3) B/\c-(u:Int)-((q3V st.w).length:Int)-(f.length:Int)-300<6000:=by
 have hb:=Man.bounds h.man;have q:0<=st.m.nx/\st.m.nx<=999999:=by omega
 obtain⟨a1,a2,R,r,a5⟩:=z3x (L:=st.m.L) (x:=st.m.nx) (by rw[U]);rw[U] at R r;simp only at R r;have hg:=h.grow;have o:((st.m.nx.toNat:Nat):Int)=st.m.nx:=by omega
 have N:st.m.L.flatten.length<40:=by
  rcases Nat.lt_or_ge st.m.L.flatten.length 40 with h1|h1
  ·exact h1
  ·have h2:=hg.addS
   rw[o,ξ h1,U] at h2;injection h2 with _ h2
   cases h2
 have J:=(hg.add N).1;rw[o,<-R] at J;have Q:q0e (st.m.add i en).nx (st.m.add i en).ck (st.m.add i en).L=true:=by
  unfold q0e Man.add;simp only[Ξ,Φ,List.all_eq_true];exact⟨⟨⟨by omega,by omega,O.1,O.2⟩,J.1⟩,fun x hx=>by have:=J.2 x hx;push_cast at this;omega⟩
 obtain⟨f1,f2⟩:=h.fresh q a1;rcases h.fl.turn (m:=st.m.add i en) Q q h.okw.sort ((q3C _).2 h.okw.sort) h.okw.ok h.okw.len (f:=f) f1 f2 h.noNew X with⟨σ',e,I⟩|⟨σ',e,I,hr⟩
 case inr=>exact .inr ⟨σ',e,⟨I,h.man,h.full,h.tb,h.only,h.okw,h.okB,h.mem⟩,hr⟩
 refine .inl ⟨σ',e,fun b may a0=>⟨I,⟨Q,h.man.2⟩,fun x hx=>?_,fun n j he=>?_,fun nm Z=>?_,okM.nil,h.okB,fun x=>?_⟩⟩
 ·exact(IxSt.put_full (m:=st.m.add i en) (n:=st.m.nx) (e:=⟨b,st.w,may⟩) h.full (fun y hy=>((r y).1 hy).symm)) x hx
 ·unfold IxSt.put at he
  simp only at he;by_cases d:n=st.m.nx
  ·rw[ξ d] at he
   injection he with he;subst he;subst d;obtain⟨t1,t2⟩:=z8r φ q f (q3V st.w) (st.m.add i en).S;exact⟨(r _).2 (.inr rfl),t1,⟨_,t2⟩,h.okw,a0⟩
  ·rw[κ d] at he
   obtain⟨t0,t1,⟨y,t2⟩,t3,t4⟩:=h.tb n j he;have c0:=h.range t0;obtain⟨o1,o2⟩:=z8s φ q (m:=n) (by omega) d f (q3V st.w) (st.m.add i en).S;exact⟨(r n).2 (.inl t0),by rw[o1];exact t1,⟨y,by rw[o2];exact t2⟩,t3,t4⟩
 ·rcases z6M Z with G|G|G|G
  ·exact .inl G
  ·exact .inr (.inl ⟨st.m.nx,(r _).2 (.inr rfl),.inl G⟩)
  ·exact .inr (.inl ⟨st.m.nx,(r _).2 (.inr rfl),.inr G⟩)
  ·rcases h.only nm G with j|⟨n,hn,j⟩|j
   ·exact .inl j
   ·exact .inr (.inl ⟨n,(r n).2 (.inl hn),j⟩)
   ·exact .inr (.inr j)
 ·rw [h.mem x]
  unfold IxSt.put;simp only
  constructor
  ·rintro(h1|⟨n,j,he,h1⟩)
   ·exact .inr ⟨st.m.nx,_,ξ rfl,h1⟩
   ·have d:n≠st.m.nx:=fun e3=>by
     have:=h.range (h.tb n j he).1;omega
    exact .inr ⟨n,j,by rw[κ d];exact he,h1⟩
  ·rintro(h1|⟨n,j,he,h1⟩)
   ·cases h1
   ·by_cases d:n=st.m.nx
    ·rw[ξ d] at he
     injection he with he;subst he;exact .inl h1
    ·rw[κ d] at he
     exact .inr ⟨n,j,he,h1⟩
end
section
variable {st :IxSt}{σ σ':DM}{c s:Int}{φ:Fls}{u cnt:Nat}{B:List En}
theorem PInv.unionLe(h:PInv st σ c s φ u cnt B)(ns:List Int):okM (q3F (ns.map (TL st)))/\(q3F (ns.map (TL st))).length<=B.length/\ ∀x∈q3F (ns.map (TL st)),x∈B:=by
 have hm: ∀x∈q3F (ns.map (TL st)),x∈B:=fun x i=>by
  obtain⟨L,j,d⟩:=mem_union.1 i;obtain⟨n,q,rfl⟩:=List.mem_map.1 j;unfold TL at d
  cases he:st.t n with
  |none=>rw[he] at d;simp at d
  |some e=>rw[he] at d;exact(h.mem x).2 (.inr ⟨n,e,he,d⟩)
 have o:=q5I (q5T (ns.map (TL st))) h.okB.sort hm;exact⟨⟨q5T _,fun x i=>h.okB.ok x (hm x i),by have:=h.okB.len;omega⟩,o,hm⟩
def z3s(B:List En)(x u r:Int):Prop:=(∀y∈B,y.1=x->y.2.1<=u->y.2.1<=r)/\((r= -1)\/ ∃y∈B,y.1=x/\y.2.1<=u/\y.2.1=r)
theorem q7h{L:List En}(G:q1G L)(x u:Int):z3s L x u (z6W L x u):=by
 unfold z6W q3S
 cases hl:(L.filter (inE x u)).getLast? with
 | none=>
  have:=List.getLast?_eq_none_iff.1 hl;refine⟨fun y r h1 h2=>?_,.inl rfl⟩;have:y∈L.filter (inE x u):=List.mem_filter.2 ⟨r,by unfold inE;simp[h1,h2]⟩;rw[List.getLast?_eq_none_iff.1 hl] at this
  cases this
 | some e=>
  have q:=List.mem_of_getLast? hl;obtain⟨I,j⟩:=List.mem_filter.1 q;unfold inE at j;simp only[Ξ,Φ] at j;refine⟨fun y r h1 h2=>?_,.inr ⟨e,I,j.1,j.2,rfl⟩⟩;have i:y∈L.filter (inE x u):=List.mem_filter.2 ⟨r,by unfold inE;simp[h1,h2]⟩;have d:q1G (L.filter (inE x u)):=G.filter _;obtain⟨l,o⟩:=List.getLast?_eq_some_iff.1 hl;rw[o] at i d;rcases List.mem_append.1 i with h3|h3
  ·have h4:=(List.pairwise_append.1 d).2.2 y h3 e (by simp)
   rw[lessE_iff] at h4;show y.2.1<=e.2.1;omega
  ·rw[List.mem_singleton.1 h3];exact Int.le_refl _
end
def CksIn(φ:Fls)(C:Cks):Prop:= ∀k:Nat,k<=999999->φ (q0B 99 (k:Int))=(C[k]?).map (q0N k)
structure CksS(φ:Fls)(σ:DM)(C:Cks)(k:Int):Prop where
 i:CksIn φ C
 sr:Sur σ.L C.length k
 le:k<=q1u C
def OldT(st:IxSt):Prop:= ∀n e,st.t n=some e-> ∀x∈e.L,x.2.2<st.m.ck
theorem OldT.tl{st:IxSt}(h:OldT st){x:En}(d:x∈TL st n):x.2.2<st.m.ck:=by
 unfold TL at d
 split at d
 ·rename_i e he;exact h n e he x d
 ·cases d
structure z9E(st:IxSt)(φ:Fls)(σ:DM)(C:Cks)(k:Int):Prop extends CksS φ σ C k where
 old:OldT st
def q6B(φ:Fls)(m:Man):Prop:=(φ mapN=some m.S/\0<m.nx)\/(φ mapN=none/\m.nx=0/\m.ck=0/\m.L=[])
def y0R(nm:List UInt8):Prop:= ∀k:Nat,k<=999999->nm≠q0B 99 (k:Int)
theorem z8C : ∀{a b:List (List UInt8×List UInt8)},q2S Prod.fst a->q2S Prod.fst b->(∀z,z∈a↔z∈b)->a=b
 |[],[],_,_,_=>rfl
 |[],y::b,_,_,h=>absurd ((h y).2 (.head _)) (by simp)
 |x::a,[],_,_,h=>absurd ((h x).1 (.head _)) (by simp)
 | x ::a,y::b,ha,hb,h=>by
  obtain⟨h1,h2⟩:=List.pairwise_cons.1 ha;obtain⟨h3,h4⟩:=List.pairwise_cons.1 hb;have j:x=y:=by
   rcases List.mem_cons.1 ((h x).1 (.head _)) with e|o
   ·exact e
   rcases List.mem_cons.1 ((h y).2 (.head _)) with e|q
   ·exact e.symm
   have:=WideShapes.bytes_trans _ _ _ (h1 y q) (h3 x o);rw[WideAt.bytes_irrefl] at this;cases this
  subst j;rw[z8C h2 h4 fun z=>?_]
  constructor
  ·intro i
   rcases List.mem_cons.1 ((h z).1 (.tail _ i)) with e|d
   ·have:=h1 z i;rw[e,WideAt.bytes_irrefl] at this;cases this
   ·exact d
  ·intro i
   rcases List.mem_cons.1 ((h z).2 (.tail _ i)) with e|d
   ·have:=h3 z i;rw[e,WideAt.bytes_irrefl] at this;cases this
   ·exact d
theorem z4d{l:List (List UInt8×List UInt8)}(h:q2S Prod.fst l)(z:List UInt8×List UInt8):z∈l↔(q0F Prod.fst z.1 l).map Prod.snd=some z.2:=by
 constructor
 ·intro d;rw[q3Q h d rfl];rfl
 ·intro d
  cases hf:q0F Prod.fst z.1 l with
  |none=>rw[hf] at d;cases d
  | some y=>
   rw[hf] at d;injection d with d;obtain⟨h1,h2⟩:=q0K hf;have:y=z:=Prod.ext h2 d
   rwa [this] at h1
theorem z0i{a b:List (List UInt8×List UInt8)}(d:q2S Prod.fst a)(i:q2S Prod.fst b)(h: ∀nm,(q0F Prod.fst nm a).map Prod.snd=(q0F Prod.fst nm b).map Prod.snd):a=b:=
 z8C d i fun z=>by rw[z4d d,z4d i,h]
theorem q6V{r:α->α->Prop}{p:α->Bool}(j: ∀x y,r x y->p y=true->p x=true): ∀{l:List α},l.Pairwise r->l=l.filter p++l.filter (fun y=>!p y)
 |[],_=>rfl
 | x :: l,h=>by
  obtain⟨h1,h2⟩:=List.pairwise_cons.1 h
  cases hx:p x with
  | true=>
   rw[List.filter_cons_of_pos hx,List.filter_cons_of_neg (by simp[hx]),List.cons_append,<-q6V j h2]
  | false=>
   have i: ∀y∈l,p y=false:=fun y d=>by
    cases hy2:p y with
    |false=>rfl
    |true=>rw[j x y (h1 y d) hy2] at hx;cases hx
   rw [List.filter_cons_of_neg (by simp[hx]),List.filter_cons_of_pos (by simp[hx]),List.filter_eq_nil_iff.2 fun y d=>by simp[i y d],List.nil_append,
    List.filter_eq_self.2 fun y d=>by simp[i y d]]
theorem q4e{α:Type}[DecidableEq α]: ∀{l m:List α},l.Nodup->(∀x∈l,x∈m)->l.length<=m.length
 |[],_,_,_=>υ _
 | x::l,m,h,hm=>by
  obtain⟨h1,h2⟩:=List.nodup_cons.1 h;have d:=hm x (.head _);have h3:=q4e (m:=m.erase x) h2 fun y i=>(List.mem_erase_of_ne (fun e:y=x=>h1 (by rw[<-e];exact i))).2 (hm y (.tail _ i))
  rw[List.length_erase_of_mem d] at h3;have:=List.length_pos_of_mem d;rw[χ];omega
theorem q2s(i:k<=999999):bytesBefore [99] (q0B 99 (k:Int))=true/\bytesBefore (q0B 99 (k:Int)) [100]=true/\bytesBefore (q0B 99 (k:Int)) [99]=false:=by
 rw[q0R (by omega)];have d:=q0b 6 ((k:Int)).toNat
 cases hd:q5b 6 ((k:Int)).toNat with
 |nil=>rw[hd] at d;cases d
 |cons a r=>exact⟨by simp[bytesBefore],by simp[bytesBefore],by simp[bytesBefore]⟩
theorem q6F(d:0<=n/\n<=999999):bytesBefore (q0B 98 n) [99]=true/\bytesBefore (q0B 116 n) [100]=false/\bytesBefore (q0B 116 n) [99]=false:=by
 rw[q0R d,q0R d];exact⟨by simp[bytesBefore],by simp[bytesBefore],by simp[bytesBefore]⟩
theorem before_map :bytesBefore mapN [100]=false/\bytesBefore mapN [99]=false:=by decide
section
variable {st :IxSt}{σ σ':DM}{c s:Int}{φ:Fls}{u cnt:Nat}{B:List En}{C C':Cks}{E:Oth}
theorem z0B : ∀(C:Cks) (i:Nat),i+C.length<=999999->q2S Prod.fst (q3e i C)
 |[],_,_=>List.Pairwise.nil
 | ps::r,i,h=>by
  rw[χ] at h;refine List.pairwise_cons.2 ⟨fun y d=>?_,z0B r (i+1) (by omega)⟩;obtain⟨j,h1,h2,h3⟩:=q2t d;rw[h3];exact q4u (by omega) (by omega) (by omega)
theorem z0A{C:Cks}(d:C.length<=200)(i:k<=999999):(q0F Prod.fst (q0B 99 (k:Int)) (q3e 0 C)).map Prod.snd=(C[k]?).map (q0N k):=by
 rcases Nat.lt_or_ge k C.length with h|h
 ·rw[q7z d (γ h),γ h];rfl
 ·rw[z1V d h i,List.getElem?_eq_none h];rfl
theorem q8i{k0:Int}(h:PInv st σ c s φ u cnt B)(b0:CksS φ σ C k0)(hC:okC C):
  ∃E,Lgd E σ (c-(q1b E:Int)) s C k0/\(∀nm,y0R nm->(q0F Prod.fst nm (E.X++E.Z)).map Prod.snd=φ nm)/\q1b E+q0q C<=u/\E.X.length+C.length+E.Z.length<=cnt:=by
 have hc:=b0.i;obtain⟨l,i0,o,N,o0,n0⟩:=h.fl;have Q: ∀y∈l,φ y.1≠none:=fun y d e=>by
  have:=N y.1;rw[q3Q o d rfl,e] at this;cases this
 have U:=q6V (r:=fun x y:List UInt8×List UInt8=>bytesBefore x.1 y.1=true) (p:=fun y:List UInt8×List UInt8=>bytesBefore y.1 [99]) (fun x y h1 h2=>WideShapes.bytes_trans _ _ _ h1 h2) o;have hr:=o.filter (p:=fun y:List UInt8×List UInt8=>!bytesBefore y.1 [99]);have p2:=q6V (r:=fun x y:List UInt8×List UInt8=>bytesBefore x.1 y.1=true) (p:=fun y:List UInt8×List UInt8=>bytesBefore y.1 [100]) (fun x y h1 h2=>WideShapes.bytes_trans _ _ _ h1 h2) hr;obtain⟨X,hX⟩: ∃X,l.filter (fun y=>bytesBefore y.1 [99])=X:=⟨_,rfl⟩
 obtain⟨R,hR⟩: ∃R,l.filter (fun y=>!bytesBefore y.1 [99])=R:=⟨_,rfl⟩
 obtain⟨M,hM⟩: ∃M,R.filter (fun y=>bytesBefore y.1 [100])=M:=⟨_,rfl⟩
 obtain⟨Z,hZ⟩: ∃Z,R.filter (fun y=>!bytesBefore y.1 [100])=Z:=⟨_,rfl⟩
 rw[hX,hR] at U;rw[hR,hM,hZ] at p2;rw[p2] at U;have mX: ∀y,y∈X↔y∈l/\bytesBefore y.1 [99]=true:=fun y=>by rw[<-hX,List.mem_filter]
 have mR: ∀y,y∈R↔y∈l/\bytesBefore y.1 [99]=false:=fun y=>by rw[<-hR,List.mem_filter];simp
 have mM: ∀y,y∈M↔y∈l/\bytesBefore y.1 [99]=false/\bytesBefore y.1 [100]=true:=fun y=>by rw[<-hM,List.mem_filter,mR];simp[and_assoc]
 have mZ: ∀y,y∈Z↔y∈l/\bytesBefore y.1 [99]=false/\bytesBefore y.1 [100]=false:=fun y=>by rw[<-hZ,List.mem_filter,mR];simp[and_assoc]
 have G: ∀n∈st.m.L.flatten,0<=n/\n<=999999:=fun n I=>by have:=h.range I;omega
 have a0: ∀y,y∈X\/y∈Z->y.1=mapN\/ ∃n∈st.m.L.flatten,y.1=q0B 116 n\/y.1=q0B 98 n:=fun y d=>by
  have hl:y∈l:=d.elim (fun h=>((mX y).1 h).1) fun h=>((mZ y).1 h).1
  rcases h.only y.1 (Q y hl) with e|e|⟨k,J,e⟩
  ·exact .inl e
  ·exact .inr e
  ·exfalso
   obtain⟨_,b2,b3⟩:=q2s J;rcases d with d|d
   ·have:=((mX y).1 d).2;rw[e,b3] at this;cases this
   ·have:=((mZ y).1 d).2.2;rw[e,b2] at this;cases this
 have d0: ∀y∈M,∃k:Nat,k<=999999/\y.1=q0B 99 (k:Int):=fun y d=>by
  obtain⟨hl,q1,q2⟩:=(mM y).1 d;rcases h.only y.1 (Q y hl) with e|⟨n,I,e|e⟩|e
  ·rw[e,before_map.1] at q2;cases q2
  ·rw[e,(q6F (G n I)).2.1] at q2;cases q2
  ·rw[e,(q6F (G n I)).1] at q1;cases q1
  ·exact e
 have S:=o;rw[U] at S;obtain⟨oX,j0,_⟩:=List.pairwise_append.1 S;obtain⟨oM,oZ,_⟩:=List.pairwise_append.1 j0;have c0:M=q3e 0 C:=z0i oM (z0B C 0 (by have:=hC.few;omega)) fun nm=>by
  by_cases O: ∃k:Nat,k<=999999/\nm=q0B 99 (k:Int)
  ·obtain⟨k,J,rfl⟩:=O
   rw[z0A hC.few J,<-hc k J,<-N];obtain⟨_,b2,b3⟩:=q2s J;rw[U,q0T fun y d e=>?_,q1B fun y d e=>?_]
   ·have:=((mZ y).1 d).2.2;rw[show y.1=q0B 99 (k:Int) from e,b2] at this;cases this
   ·have:=((mX y).1 d).2;rw[show y.1=q0B 99 (k:Int) from e,b3] at this;cases this
  ·rw [q0W fun y d e=>O (by obtain⟨k,J,e2⟩:=d0 y d;exact⟨k,J,by rw[<-e2];exact e.symm⟩),q0W fun y d e=>O (by
    obtain⟨j,h1,h2,h3⟩:=q2t d
    exact⟨j,by have:=hC.few;omega,by rw[<-h3];exact e.symm⟩)]
 rw[c0] at U;have f0:=h.noNew;have m0:q1R l=q1b ⟨X,Z⟩+q0q C:=by
  rw[U,q0l,q0l,q4I];unfold q1b;simp only;omega
 have l0:l.length=X.length+C.length+Z.length:=by rw[U];simp[q3f];omega
 refine⟨⟨X,Z⟩,⟨?_,hC,⟨fun y d k J=>?_,fun y d k J=>?_,fun y d e=>?_,fun y d hp=>?_,fun y d=>?_,?_⟩,b0.sr,b0.le⟩,fun nm O=>?_,by omega,by simp only;omega⟩
 ·rw[show c-(q1b ⟨X,Z⟩:Int)+(q1b ⟨X,Z⟩:Int)=c by omega]
  show Pl σ c s (X++(q3e 0 C++Z));rw[<-U];exact i0
 ·exact WideShapes.bytes_trans _ _ _ ((mX y).1 d).2 (q2s J).1
 ·by_cases q:y.1=[100]
  ·rw[q];exact(q2s J).2.1
  ·rcases WideAt.bytes_total y.1 [100] q with q|q
   ·rw[((mZ y).1 d).2.2] at q;cases q
   ·exact WideShapes.bytes_trans _ _ _ (q2s J).2.1 q
 ·have hl:y∈l:=d.elim (fun h=>((mX y).1 h).1) fun h=>((mZ y).1 h).1
  exact Q y hl (by rw[e];exact f0)
 ·rcases a0 y d with e|⟨n,I,e|e⟩
  ·rw[e] at hp;exact absurd hp (by decide)
  ·rw[e,q1m z3M (G n I)];exact(by decide:(116:UInt8)≠99)
  ·rw[e,q1m y2i (G n I)];exact(by decide:(98:UInt8)≠99)
 ·rcases a0 y d with e|⟨n,I,e|e⟩
  ·rw[e];decide
  ·rw[e,q0R (G n I),χ,q0b];decide
  ·rw[e,q0R (G n I),χ,q0b];decide
 ·have e0:((X++Z).map Prod.fst).Nodup:=by
   have ho:q2S Prod.fst (X++Z):=by
    rw[U] at o;exact o.sublist (List.Sublist.append (List.Sublist.refl X) (List.sublist_append_right _ _))
   exact List.pairwise_map.2 (q9f ho)
  have hb:=Man.bounds h.man;have:=q4e (m:=mapN::(st.m.L.flatten.map (q0B 116)++st.m.L.flatten.map (q0B 98))) e0 fun x hx=>by
   obtain⟨y,d,rfl⟩:=List.mem_map.1 hx;rcases a0 y (List.mem_append.1 d) with e|⟨n,I,e|e⟩
   ·rw[e];exact .head _
   ·rw[e];exact .tail _ (List.mem_append.2 (.inl (List.mem_map.2 ⟨n,I,rfl⟩)))
   ·rw[e];exact .tail _ (List.mem_append.2 (.inr (List.mem_map.2 ⟨n,I,rfl⟩)))
  simp only[List.length_map,θ,χ] at this;simp only;omega
 ·rw [<-N,U]
  show(q0F Prod.fst nm (X++Z)).map Prod.snd=_;have g0: ∀y∈q3e 0 C,Prod.fst y≠nm:=fun y d e=>by
   obtain⟨j,h1,h2,h3⟩:=q2t d;exact O j (by have:=hC.few;omega) (by rw[<-h3];exact e.symm)
  unfold q0F;rw[List.find?_append,List.find?_append,List.find?_append];have h0:List.find? (fun y=>Prod.fst y==nm) (q3e 0 C)=none:=q0W g0;rw[h0];simp
theorem PInv.relog{k0:Int}(h:PInv st σ c s φ u cnt B)(hE: ∀nm,y0R nm->(q0F Prod.fst nm (E.X++E.Z)).map Prod.snd=φ nm)(q:Lgd E σ' (c-(q1b E:Int)) s C' k0)(ho:okD σ')(hu:q1b E+q0q C'<=u')(N:E.X.length+C'.length+E.Z.length<=cnt'):
  ∃G,PInv st σ' c s G u' cnt' B/\CksS G σ' C' k0/\ ∀nm,y0R nm->G nm=φ nm:=by
 have r:=q.pl;rw[show c-(q1b E:Int)+(q1b E:Int)=c by omega] at r;have d: ∀nm,y0R nm->(q0F Prod.fst nm (q2i E C')).map Prod.snd=φ nm:=fun nm i=>by
  rw[<-hE nm i];have R: ∀y∈q3e 0 C',Prod.fst y≠nm:=fun y hy e=>by
   obtain⟨j,h1,h2,h3⟩:=q2t hy;exact i j (by have:=q.ok.few;omega) (by rw[<-h3];exact e.symm)
  unfold q0F q2i;rw[List.find?_append,List.find?_append,List.find?_append];have U:List.find? (fun y=>Prod.fst y==nm) (q3e 0 C')=none:=q0W R;rw[U];simp
 have Q: ∀k:Nat,k<=999999->(q0F Prod.fst (q0B 99 (k:Int)) (q2i E C')).map Prod.snd=(C'[k]?).map (q0N k):=fun k I=>by
  rw[<-z0A q.ok.few I];unfold q2i;rw[q0T (q.oth.neX I),q1B (q.oth.neZ I)]
 have O: ∀J:UInt8,(J=116\/J=98)-> ∀n:Int,0<=n/\n<=999999->y0R (q0B J n):=fun J hc n N k I e=>by
  have hl:q2B J=true:=by rcases hc with rfl|rfl<;>decide
  have:=(q3T hl y2j N (by omega) e).1;rcases hc with rfl|rfl<;>exact absurd this (by decide)
 have o: ∀n∈st.m.L.flatten,0<=n/\n<=999999:=fun n N=>by have:=h.range N;omega
 refine⟨fun nm=>(q0F Prod.fst nm (q2i E C')).map Prod.snd,⟨⟨q2i E C',r,r.ord ho,fun _=>rfl,by rw[q7y];exact hu,by rw[q7x];exact N⟩,h.man,h.full,fun n e he=>?_,fun nm i=>?_,h.okw,h.okB,h.mem⟩,⟨Q,q.sr,q.le⟩,d⟩
 ·obtain⟨S,t1,⟨y,t2⟩,t3,t4⟩:=h.tb n e he
  exact⟨S,(d _ (O 116 (.inl rfl) n (o n S))).trans t1,⟨y,(d _ (O 98 (.inr rfl) n (o n S))).trans t2⟩,t3,t4⟩
 ·by_cases hc: ∃k:Nat,k<=999999/\nm=q0B 99 (k:Int)
  ·exact .inr (.inr hc)
  ·exact h.only nm (by rw[<-d nm fun k I e=>hc ⟨k,I,e⟩];exact i)
end
theorem q6n : ∀(L:List FM) (ks:List Int) (nm:List UInt8),∃x,q0F FM.nm nm (q0x L ks)=(q0F FM.nm nm L).map fun f=>q2Z f x
 |[],ks,nm=>⟨0,rfl⟩
 | f ::r,ks,nm=>by
  by_cases h:f.nm=nm
  ·refine⟨ks.headD 0,?_⟩
   unfold q0F;rw[q0x,List.find?_cons_of_pos (by simpa [q8C] using h),List.find?_cons_of_pos (by simpa using h)]
   rfl
  ·obtain⟨x,d⟩:=q6n r ks.tail nm
   refine⟨x,?_⟩;unfold q0F at d⊢;rw[q0x,List.find?_cons_of_neg (by simpa [q8C] using h),List.find?_cons_of_neg (by simpa using h)];exact d
theorem z2w{f:FM}(h:f.sy=f.da.length)(x:Int):(q2Z f x).da=f.da:=by
 unfold q2Z;simp only;rw[Δ (by omega)]
theorem z2v(f:FM)(x:Int)(h:f.sy<=f.da.length): ∃j,f.sy<=j/\j<=f.da.length/\(q2Z f x).da=f.da.take j:=
 ⟨f.sy+min (max x 0).toNat (f.da.length-f.sy),by omega,by omega,rfl⟩
theorem q9O : ∀(L:List FM) (ks:List Int),q0S (q0x L ks)<=q0S L
 |[],_=>ι _
 | f::r,ks=>by
  have h1:=q9O r ks.tail;have h2:=z1W f (ks.headD 0);unfold q0S q5Q at h1⊢;rw[q0x,List.map_cons,List.map_cons,List.sum_cons,List.sum_cons];omega
def upC(σ:DM)(xs:List Int):DM:={q5a σ xs with down:=false,starts:=wrap64 (σ.starts+1)}
theorem z8v(σ:DM)(xs:List Int):q7R (q5a σ xs)=(0,upC σ xs):=by unfold q7R;exact ξ rfl
theorem y4F(σ:DM)(xs:List Int):(upC σ xs).L=q0x σ.L xs:=rfl
def y0o(φ:Fls)(C:Cks):Prop:=
 CksIn φ C\/ ∃(D:Cks) (t:List UInt8),D.length<=199/\(∀k:Nat,k<=999999->φ (q0B 99 (k:Int))=if k=D.length then some t else(D[k]?).map (q0N k))/\
  ((t.length<12/\z1E (q1e D.length) t=true/\C=D)\/ ∃ps r,C=D++[ps]/\t=q0N D.length ps++r/\z3X r/\0<r.length/\t.length<=4096)
theorem z2G : ∀(x y:List (List UInt8)) (a:Nat),q2D a (x++y)=q2D a x++q2D (a+(x.map fun p=>p.length+12).sum) y
 |[],y,a=>by simp[q2D]
 | p::t,y,a=>by
  rw[List.cons_append,q2D,z2G t y,q2D,List.cons_append,List.map_cons,List.sum_cons]
  congr 3;omega
theorem z1Y : ∀(ps qs:List (List UInt8)) (b:Nat) (p:List UInt8),ps=z2y b ps++p::qs->b<((z2y b ps).map fun p=>p.length+12).sum+(p.length+12)
 |[],qs,b,p,h=>by simp[z2y] at h
 | q ::t,qs,b,p,h=>by
  rw[z2y] at h⊢
  split
  ·rename_i d
   rw[ξ d,List.cons_append] at h;injection h with _ h;have:=z1Y t qs (b-(q.length+12)) p h;rw[List.map_cons,List.sum_cons];omega
  ·rename_i d
   rw[κ d,List.nil_append] at h;injection h with h1 h2;rw[<-h1];simp;omega
structure Left(C C':Cks)(k:Int):Prop where
 pre: ∃R,q0k 0 C=q0k 0 C'++R
 sure: ∀r∈q0k 0 C,((r.1+r.2.length+12:Nat):Int)<=k->r∈q0k 0 C'
 low: ∀r∈q0k 0 C,(r.1:Int)<q1u C'->r∈q0k 0 C'
theorem Left.refl(C:Cks)(k:Int):Left C C k:=⟨⟨[],by simp⟩,fun r h _=>h,fun r h _=>h⟩
theorem Left.gone{D:Cks}{k:Int}{j:Nat}(i:okC (D++[ps]))(y:j<12)(G:k<=(D.length:Int)*4096+(j:Int)):Left (D++[ps]) D k:=by
 have q:q1u D<=(D.length:Int)*4096:=by
  rcases List.eq_nil_or_concat D with rfl|⟨E,o,rfl⟩
  ·exact Int.le_refl _
  ·rw[List.concat_eq_append] at*
   have:=i.size o (by simp);rw[q1J,θ,List.length_singleton];omega
 refine⟨⟨_,q1n D ps⟩,fun r d h=>?_,fun r d h=>?_⟩
 all_goals
  rw[q1n] at d;rcases List.mem_append.1 d with h1|h1
  ·exact h1
  ·have:=q4j _ _ _ h1;omega
theorem Left.cut{D:Cks}{k:Int}{b:Nat}(G:k<=(D.length:Int)*4096+12+(b:Int)):Left (D++[ps]) (D++[z2y b ps]) k:=by
 obtain⟨y,d⟩:=z0H ps b;obtain⟨xs,o⟩: ∃xs,z2y b ps=xs:=⟨_,rfl⟩
 have q:=fun p i=>z1Y ps i b p
 rw[o] at d q⊢;have e:q0k 0 (D++[ps])=q0k 0 (D++[xs])++q2D (4096*D.length+12+(xs.map fun p=>p.length+12).sum) y:=by
  rw[q1n,q1n,d,z2G,List.append_assoc]
 refine⟨⟨_,e⟩,fun r j h=>?_,fun r j h=>?_⟩
 ·rw [e] at j
  rcases List.mem_append.1 j with h1|h1
  ·exact h1
  ·exfalso
   cases y with
   |nil=>cases h1
   | cons p i=>
    have h2:=q p i d;rw[q2D] at h1;rcases List.mem_cons.1 h1 with rfl|h1
    ·simp only at h;omega
    ·have:=q4j _ _ _ h1;omega
 ·rw [e] at j
  rcases List.mem_append.1 j with h1|h1
  ·exact h1
  ·exfalso
   have:=q4j _ _ _ h1;rw[q1J] at h;unfold q0I at h;omega
theorem okC.cut{D:Cks}(h:okC (D++[ps]))(b:Nat):okC (D++[z2y b ps]):=by
 obtain⟨o,d⟩:=z0H ps b;have j:q0I (z2y b ps)<=q0I ps:=by
  unfold q0I
  conv=>rhs;rw[d,List.map_append,List.sum_append]
  omega
 refine⟨by simpa using h.few,fun q hq=>?_,fun q hq=>?_,fun q hq=>h.full q (by simpa using hq)⟩
 ·rcases List.mem_append.1 hq with h1|h1
  ·exact h.size q (List.mem_append_left _ h1)
  ·rw[List.mem_singleton.1 h1];exact Ω j (h.size ps (by simp))
 ·rcases List.mem_append.1 hq with h1|h1
  ·exact h.pay q (List.mem_append_left _ h1)
  ·rw[List.mem_singleton.1 h1]
   exact fun p i=>h.pay ps (by simp) p (by rw[d];exact List.mem_append_left _ i)
theorem okC.init{D:Cks}(h:okC (D++[ps])):okC D:=
 ⟨by have:=h.few;rw[θ] at this;omega,fun q hq=>h.size q (List.mem_append_left _ hq),fun q hq=>h.pay q (List.mem_append_left _ hq),fun q hq=>h.full q (by rw[List.dropLast_concat];exact List.dropLast_subset _ hq)⟩
theorem z6I(n:Nat)(ps:List (List UInt8))(o: ∀p∈ps,p.length<=2000)(j:Nat):
  (j<12->((q0N n ps).take j).length<12/\z1E (q1e n) ((q0N n ps).take j)=true)/\(12<=j-> ∃r,(q0N n ps).take j=q0N n (z2y (j-12) ps)++r/\z3X r):=by
 have d:=q1f n;refine⟨fun h=>?_,fun h=>?_⟩
 ·have e:(q0N n ps).take j=(q1e n).take j:=by unfold q0N;rw[List.take_append_of_le_length (by omega)]
  have i:((q1e n).take j).length=j:=by rw[Θ];omega
  rw[e];refine⟨by omega,?_⟩;unfold z1E;rw[ζ (by omega),Bool.true_and,i];simp
 ·obtain⟨r,h1,h2⟩:=z2P ps (j-12) o
  refine⟨r,?_,h2⟩;unfold q0N;rw[List.take_append,Δ (by omega),d,h1,List.append_assoc]
section
variable {st :IxSt}{σ:DM}{c s:Int}{φ:Fls}{u cnt:Nat}{B:List En}{C:Cks}{k0:Int}
theorem Fl.crash(h:Fl σ c s φ u cnt)(o:okD σ)(N:0<=s/\s<1000000)(xs:List Int):Fl (upC σ xs) c (s+1) (fun nm=>(q0F FM.nm nm (q0x σ.L xs)).map FM.da) u cnt:=by
 obtain⟨l,d,r,G,I,J⟩:=h;have j:=y4F σ xs;have q:wrap64 (σ.starts+1)=s+1:=by rw[d.st];unfold wrap64;omega
 have i:(q0x σ.L xs).map FM.nm=σ.L.map FM.nm:=q6G σ.L xs;refine⟨(q0x σ.L xs).map fbF,⟨?_,?_,by rw[j],?_,?_⟩,?_,fun nm=>?_,?_,?_⟩
 ·rfl
 ·rfl
 ·exact d.cap
 ·exact q
 ·have h2:=o.ord
  unfold q2S at h2⊢;rw[List.pairwise_map];have e: ∀L:List FM,L.Pairwise (fun a b=>bytesBefore a.nm b.nm=true)↔(L.map FM.nm).Pairwise fun x y=>bytesBefore x y=true:=fun L=>by rw[List.pairwise_map]
  show(q0x σ.L xs).Pairwise fun a b=>bytesBefore a.nm b.nm=true
  rw[e,i,<-e];exact h2
 ·rw[q1z (k:=FM.nm) (k':=Prod.fst) q5c nm (q0x σ.L xs),Option.map_map];rfl
 ·have h1:=q9O σ.L xs
  have h2:q1R ((q0x σ.L xs).map fbF)=q0S (q0x σ.L xs):=by unfold q1R q0S q5Q;rw[List.map_map];rfl
  have h3:=d.used;omega
 ·rw[List.length_map,q4U]
  have:σ.L.length=l.length:=by rw[<-d.files,List.length_map]
  omega
theorem CksS.crash(h:PInv st σ c s φ u cnt B)(hc:CksS φ σ C k0)(Q:okC C)(ho:okD σ)(hs:0<=s/\s<1000000)(xs:List Int):
  ∃d C',PInv st (upC σ xs) c (s+1) d u cnt B/\(∀nm,y0R nm->d nm=φ nm)/\AllS (upC σ xs).L/\okC C'/\y0o d C'/\Left C C' k0:=by
 have i0:=h.fl.crash ho hs xs;obtain⟨d,f0⟩: ∃d:Fls,(fun nm=>(q0F FM.nm nm (q0x σ.L xs)).map FM.da)=d:=⟨_,rfl⟩
 have q:AllS (upC σ xs).L:=fun f O=>by
  rw[y4F] at O;exact q8E σ.L xs ho.sy f O
 have G: ∀nm,φ nm=(q0F FM.nm nm σ.L).map FM.da:=fun nm=>by
  obtain⟨l,a1,_,a3,_⟩:=h.fl;rw[<-a3,a1.find,Option.map_map];rfl
 have J: ∀nm,d nm=φ nm\/ ∃D ps j,C=D++[ps]/\nm=q0B 99 (D.length:Int)/\d nm=some ((q0N D.length ps).take j)/\j<=(q0N D.length ps).length/\k0<=(D.length:Int)*4096+(j:Int):=fun nm=>by
  obtain⟨x,hx⟩:=q6n σ.L xs nm;have h1:d nm=((q0F FM.nm nm σ.L).map fun f=>q2Z f x).map FM.da:=by rw[<-f0];simp only;rw[hx]
  cases O:q0F FM.nm nm σ.L with
  |none=>left;rw[h1,G,O];rfl
  | some f=>
   rw[O] at h1;obtain⟨m1,m2⟩:=q0K O;rcases hc.sr f m1 with h2|⟨j,hj,e,hk⟩
   ·left
    rw[h1,G,O];show some (q2Z f x).da=some f.da;rw[z2w h2]
   ·right
    rcases List.eq_nil_or_concat C with e0|⟨D,ps,e0⟩
    ·rw[e0] at hj;simp at hj
    ·rw[List.concat_eq_append] at e0
     subst e0;have n0:j=D.length:=by rw[θ,List.length_singleton] at hj;omega
     subst n0;have h3:=hc.i D.length (by have:=Q.few;rw[θ] at this;omega);rw[G,<-e,m2,O] at h3;simp only[Option.map_some,List.getElem?_append_right (ι _),Nat.sub_self,List.getElem?_cons_zero,Option.some.injEq] at h3;obtain⟨i,i1,i2,i3⟩:=z2v f x (ho.sy f m1);refine⟨D,ps,i,rfl,by rw[<-m2,e],?_,by rw[<-h3];exact i2,by omega⟩;rw[h1];show some (q2Z f x).da=_;rw[i3,h3]
 have I: ∀nm,y0R nm->d nm=φ nm:=fun nm hn=>by
  rcases J nm with h1|⟨D,ps,j,e,b0,_⟩
  ·exact h1
  ·exact absurd b0 (hn D.length (by have:=Q.few;rw[e,θ] at this;omega))
 have c0: ∀nm,d nm≠none->φ nm≠none:=fun nm hn e=>hn (by
  obtain⟨x,hx⟩:=q6n σ.L xs nm;rw[<-f0];simp only;rw[hx];rw[G] at e
  cases O:q0F FM.nm nm σ.L with
  |none=>rfl
  |some f=>rw[O] at e;cases e)
 have m0: ∀c':UInt8,(c'=116\/c'=98)-> ∀n:Int,0<=n/\n<=999999->y0R (q0B c' n):=fun c' hc n hn k hk e=>by
  have hl:q2B c'=true:=by rcases hc with rfl|rfl<;>decide
  have:=(q3T hl y2j hn (by omega) e).1;rcases hc with rfl|rfl<;>exact absurd this (by decide)
 rw[f0] at i0
 have hP:PInv st (upC σ xs) c (s+1) d u cnt B:=⟨i0,h.man,h.full,fun n e he=>by
   obtain⟨t0,t1,⟨y,t2⟩,t3,t4⟩:=h.tb n e he;have hr:=h.range t0
   exact⟨t0,(I _ (m0 116 (.inl rfl) n (by omega))).trans t1,⟨y,(I _ (m0 98 (.inr rfl) n (by omega))).trans t2⟩,t3,t4⟩,fun nm hn=>h.only nm (c0 nm hn),h.okw,h.okB,h.mem⟩
 by_cases N: ∀nm,d nm=φ nm
 ·exact⟨d,C,hP,I,q,Q,.inl fun k hk=>(N _).trans (hc.i k hk),Left.refl C k0⟩
 ·have d0 : ∃nm,d nm≠φ nm:=by
   rcases Classical.em (∃nm,d nm≠φ nm) with h1|h1
   ·exact h1
   ·exact absurd (fun nm=>Classical.byContradiction fun h2=>h1 ⟨nm,h2⟩) N
  obtain⟨nm,p0⟩:=d0;rcases J nm with h1|⟨D,ps,j,e,b0,hv,o0,hk⟩
  ·exact absurd h1 p0
  ·subst e
   have X:D.length<=199:=by have:=Q.few;rw[θ,List.length_singleton] at this;omega
   have R : ∀k:Nat,k<=999999->d (q0B 99 (k:Int))=if k=D.length then some ((q0N D.length ps).take j) else(D[k]?).map (q0N k):=fun k S=>by
    by_cases o:k=D.length
    ·rw[ξ o,o,<-b0];exact hv
    ·rw [κ o]
     rcases J (q0B 99 (k:Int)) with h1|⟨D2,r0,j2,e2,Z,_⟩
     ·rw[h1,hc.i k S]
      rcases Nat.lt_or_ge k D.length with h2|h2
      ·rw[List.getElem?_append_left h2]
      ·rw[List.getElem?_eq_none (by rw[θ,List.length_singleton];omega),List.getElem?_eq_none h2]
     ·exfalso
      have hl:D2.length=D.length:=by
       have:=congrArg List.length e2;rw[θ,θ,List.length_singleton,List.length_singleton] at this;omega
      rw[hl] at Z;exact z0F S (by omega) o Z
   obtain⟨U,a0⟩:=z6I D.length ps (Q.pay ps (by simp)) j;by_cases g0:j<12
   ·obtain⟨s1,s2⟩:=U g0
    exact⟨d,D,hP,I,q,Q.init,.inr ⟨D,_,X,R,.inl ⟨s1,s2,rfl⟩⟩,Left.gone Q g0 hk⟩
   ·obtain⟨r,r1,r2⟩:=a0 (by omega)
    have hL:=Left.cut (D:=D) (ps:=ps) (k:=k0) (b:=j-12) (by omega);have l0:=Q.cut (j-12);have j0:((q0N D.length ps).take j).length<=4096:=by
     rw[Θ];have:=Q.size ps (by simp);rw[q0a] at o0⊢;omega
    rw[r1] at R j0;rcases Nat.eq_zero_or_pos r.length with h0|h0
    ·have q0:r=[]:=List.length_eq_zero_iff.1 h0
     subst q0;refine⟨d,_,hP,I,q,l0,.inl fun k S=>?_,hL⟩;rw[R k S,List.append_nil];by_cases o:k=D.length
     ·rw[ξ o,o,List.getElem?_append_right (ι _),Nat.sub_self];rfl
     ·rw[κ o]
      rcases Nat.lt_or_ge k D.length with h2|h2
      ·rw[List.getElem?_append_left h2]
      ·rw[List.getElem?_eq_none h2,List.getElem?_eq_none (by rw[θ,List.length_singleton];omega)]
    ·exact⟨d,_,hP,I,q,l0,.inr ⟨D,_,X,R,.inr ⟨_,r,rfl,rfl,r2,h0,j0⟩⟩,hL⟩
end
section
variable {st :IxSt}{σ σ':DM}{c s:Int}{φ:Fls}{u cnt:Nat}{B:List En}{C D:Cks}{E:Oth}
theorem z8c(h:PInv st σ c s φ u cnt B){N:List (List UInt8×List UInt8)}(hN:q2S Prod.fst N)(a0: ∀y∈N,∃k:Nat,k<=999999/\y.1=q0B 99 (k:Int))(hc: ∀k:Nat,k<=999999->(q0F Prod.fst (q0B 99 (k:Int)) N).map Prod.snd=φ (q0B 99 (k:Int))):
  ∃E,Pl σ c s (E.X++(N++E.Z))/\okOth E/\(∀nm,y0R nm->(q0F Prod.fst nm (E.X++E.Z)).map Prod.snd=φ nm)/\q1b E+q1R N<=u/\E.X.length+N.length+E.Z.length<=cnt/\q2S Prod.fst (E.X++(N++E.Z)):=by
 obtain⟨l,g0,i,I,n0,m0⟩:=h.fl;have O: ∀y∈l,φ y.1≠none:=fun y d e=>by
  have:=I y.1;rw[q3Q i d rfl,e] at this;cases this
 have S:=q6V (r:=fun x y:List UInt8×List UInt8=>bytesBefore x.1 y.1=true) (p:=fun y:List UInt8×List UInt8=>bytesBefore y.1 [99]) (fun x y h1 h2=>WideShapes.bytes_trans _ _ _ h1 h2) i;have hr:=i.filter (p:=fun y:List UInt8×List UInt8=>!bytesBefore y.1 [99]);have p2:=q6V (r:=fun x y:List UInt8×List UInt8=>bytesBefore x.1 y.1=true) (p:=fun y:List UInt8×List UInt8=>bytesBefore y.1 [100]) (fun x y h1 h2=>WideShapes.bytes_trans _ _ _ h1 h2) hr;obtain⟨X,hX⟩: ∃X,l.filter (fun y=>bytesBefore y.1 [99])=X:=⟨_,rfl⟩
 obtain⟨R,hR⟩: ∃R,l.filter (fun y=>!bytesBefore y.1 [99])=R:=⟨_,rfl⟩
 obtain⟨M,hM⟩: ∃M,R.filter (fun y=>bytesBefore y.1 [100])=M:=⟨_,rfl⟩
 obtain⟨Z,hZ⟩: ∃Z,R.filter (fun y=>!bytesBefore y.1 [100])=Z:=⟨_,rfl⟩
 rw[hX,hR] at S;rw[hR,hM,hZ] at p2;rw[p2] at S;have mX: ∀y,y∈X↔y∈l/\bytesBefore y.1 [99]=true:=fun y=>by rw[<-hX,List.mem_filter]
 have mR: ∀y,y∈R↔y∈l/\bytesBefore y.1 [99]=false:=fun y=>by rw[<-hR,List.mem_filter];simp
 have mM: ∀y,y∈M↔y∈l/\bytesBefore y.1 [99]=false/\bytesBefore y.1 [100]=true:=fun y=>by rw[<-hM,List.mem_filter,mR];simp[and_assoc]
 have mZ: ∀y,y∈Z↔y∈l/\bytesBefore y.1 [99]=false/\bytesBefore y.1 [100]=false:=fun y=>by rw[<-hZ,List.mem_filter,mR];simp[and_assoc]
 have j: ∀n∈st.m.L.flatten,0<=n/\n<=999999:=fun n G=>by have:=h.range G;omega
 have U: ∀y,y∈X\/y∈Z->y.1=mapN\/ ∃n∈st.m.L.flatten,y.1=q0B 116 n\/y.1=q0B 98 n:=fun y d=>by
  have hl:y∈l:=d.elim (fun h=>((mX y).1 h).1) fun h=>((mZ y).1 h).1
  rcases h.only y.1 (O y hl) with e|e|⟨k,o,e⟩
  ·exact .inl e
  ·exact .inr e
  ·exfalso
   obtain⟨_,b2,b3⟩:=q2s o;rcases d with d|d
   ·have:=((mX y).1 d).2;rw[e,b3] at this;cases this
   ·have:=((mZ y).1 d).2.2;rw[e,b2] at this;cases this
 have c0: ∀y∈M,∃k:Nat,k<=999999/\y.1=q0B 99 (k:Int):=fun y d=>by
  obtain⟨hl,q1,q2⟩:=(mM y).1 d;rcases h.only y.1 (O y hl) with e|⟨n,G,e|e⟩|e
  ·rw[e,before_map.1] at q2;cases q2
  ·rw[e,(q6F (j n G)).2.1] at q2;cases q2
  ·rw[e,(q6F (j n G)).1] at q1;cases q1
  ·exact e
 have Q:=i;rw[S] at Q;obtain⟨oX,i0,_⟩:=List.pairwise_append.1 Q;obtain⟨oM,oZ,_⟩:=List.pairwise_append.1 i0;have b0:M=N:=z0i oM hN fun nm=>by
  by_cases J: ∃k:Nat,k<=999999/\nm=q0B 99 (k:Int)
  ·obtain⟨k,o,rfl⟩:=J
   rw[hc k o,<-I];obtain⟨_,b2,b3⟩:=q2s o;rw[S,q0T fun y d e=>?_,q1B fun y d e=>?_]
   ·have:=((mZ y).1 d).2.2;rw[show y.1=q0B 99 (k:Int) from e,b2] at this;cases this
   ·have:=((mX y).1 d).2;rw[show y.1=q0B 99 (k:Int) from e,b3] at this;cases this
  ·rw[q0W fun y d e=>J (by obtain⟨k,o,e2⟩:=c0 y d;exact⟨k,o,by rw[<-e2];exact e.symm⟩),q0W fun y d e=>J (by obtain⟨k,o,e2⟩:=a0 y d;exact⟨k,o,by rw[<-e2];exact e.symm⟩)]
 rw[b0] at S;have e0:=h.noNew;have l0:q1R l=q1b ⟨X,Z⟩+q1R N:=by
  rw[S,q0l,q0l];unfold q1b;simp only;omega
 have j0:l.length=X.length+N.length+Z.length:=by rw[S];simp;omega
 refine⟨⟨X,Z⟩,?_,⟨fun y d k o=>?_,fun y d k o=>?_,fun y d e=>?_,fun y d hp=>?_,fun y d=>?_,?_⟩,fun nm J=>?_,by omega,by simp only;omega,?_⟩
 ·show Pl σ c s (X++(N++Z))
  rw[<-S];exact g0
 ·exact WideShapes.bytes_trans _ _ _ ((mX y).1 d).2 (q2s o).1
 ·by_cases q:y.1=[100]
  ·rw[q];exact(q2s o).2.1
  ·rcases WideAt.bytes_total y.1 [100] q with q|q
   ·rw[((mZ y).1 d).2.2] at q;cases q
   ·exact WideShapes.bytes_trans _ _ _ (q2s o).2.1 q
 ·have hl:y∈l:=d.elim (fun h=>((mX y).1 h).1) fun h=>((mZ y).1 h).1
  exact O y hl (by rw[e];exact e0)
 ·rcases U y d with e|⟨n,G,e|e⟩
  ·rw[e] at hp;exact absurd hp (by decide)
  ·rw[e,q1m z3M (j n G)];exact(by decide:(116:UInt8)≠99)
  ·rw[e,q1m y2i (j n G)];exact(by decide:(98:UInt8)≠99)
 ·rcases U y d with e|⟨n,G,e|e⟩
  ·rw[e];decide
  ·rw[e,q0R (j n G),χ,q0b];decide
  ·rw[e,q0R (j n G),χ,q0b];decide
 ·have d0:((X++Z).map Prod.fst).Nodup:=by
   have ho:q2S Prod.fst (X++Z):=by
    rw[S] at i;exact i.sublist (List.Sublist.append (List.Sublist.refl X) (List.sublist_append_right _ _))
   exact List.pairwise_map.2 (q9f ho)
  have hb:=Man.bounds h.man;have:=q4e (m:=mapN::(st.m.L.flatten.map (q0B 116)++st.m.L.flatten.map (q0B 98))) d0 fun x hx=>by
   obtain⟨y,d,rfl⟩:=List.mem_map.1 hx;rcases U y (List.mem_append.1 d) with e|⟨n,G,e|e⟩
   ·rw[e];exact .head _
   ·rw[e];exact .tail _ (List.mem_append.2 (.inl (List.mem_map.2 ⟨n,G,rfl⟩)))
   ·rw[e];exact .tail _ (List.mem_append.2 (.inr (List.mem_map.2 ⟨n,G,rfl⟩)))
  simp only[List.length_map,θ,χ] at this;simp only;omega
 ·rw [<-I,S]
  show(q0F Prod.fst nm (X++Z)).map Prod.snd=_;have f0: ∀y∈N,Prod.fst y≠nm:=fun y d e=>by
   obtain⟨k,o,e2⟩:=a0 y d;exact J k o (by rw[<-e2];exact e.symm)
  unfold q0F;rw[List.find?_append,List.find?_append,List.find?_append];have h0:List.find? (fun y=>Prod.fst y==nm) N=none:=q0W f0;rw[h0];simp
 ·show q2S Prod.fst (X++(N++Z))
  rw[<-S];exact i
theorem y0i{D:Cks}{t:List UInt8}(o:D.length<=199):q2S Prod.fst (q3e 0 D++[(q0B 99 (D.length:Int),t)]):=by
 refine List.pairwise_append.2 ⟨z0B D 0 (by omega),List.pairwise_singleton _ _,fun x d y i=>?_⟩;obtain⟨j,h1,h2,h3⟩:=q2t d;rw[List.mem_singleton.1 i,h3];exact q4u (by omega) (by omega) (by omega)
theorem z8n{D:Cks}{t:List UInt8}(r:D.length<=199)(i:k<=999999):(q0F Prod.fst (q0B 99 (k:Int)) (q3e 0 D++[(q0B 99 (D.length:Int),t)])).map Prod.snd=if k=D.length then some t else(D[k]?).map (q0N k):=by
 by_cases d:k=D.length
 ·rw[ξ d,d,q0T (q3w (by omega) (by omega) fun j _ h2=>by omega)]
  unfold q0F;rw[List.find?_cons_of_pos (by simp)]
  rfl
 ·rw [κ d,q1B fun y q e=>?_]
  ·exact z0A (by omega) i
  ·rw[List.mem_singleton.1 q] at e
   exact z0F (by omega) i (fun o=>d o.symm) e
end
structure To where
 s:List UInt8
 v:Int
 e:Ev
def to0 :To:=⟨[],0,ev0⟩
def q7i(s:List UInt8):Nat->List Ev->List To
 |_,[]=>[]
 |i,e::r=>⟨s,(i:Int),e⟩::q7i s (i+1) r
def y4h(b:Bt):List To:=q7i b.st b.fi b.ev
def tos(bs:List Bt):List To:=(bs.map y4h).flatten
def q1V(bs:List Bt)(s:List UInt8):List Ev:=((bs.filter fun b=>decide (b.st=s)).map Bt.ev).flatten
def z9D(bs:List Bt)(s:List UInt8):List To:=q7i s 0 (q1V bs s)
def okBs(bs:List Bt):Prop:= ∀l b r,bs=l++b::r->z5w b/\b.fi=(q1V l b.st).length
theorem z0s{P:List α->Prop}(h0:P [])(h1: ∀l a,P l->P (l++[a]))(l:List α):P l:=by
 have h : ∀n,∀l:List α,l.length=n->P l:=fun n=>by
  induction n with
  |zero=>intro l hl;rw[List.length_eq_zero_iff.1 hl];exact h0
  | succ n ih=>
   intro l hl;rcases List.eq_nil_or_concat l with e|⟨m,a,e⟩
   ·rw[e] at hl;simp at hl
   ·rw[List.concat_eq_append] at e
    subst e;exact h1 m a (ih m (by simpa using hl))
 exact h _ l rfl
theorem q5q(s:List UInt8): ∀(L:List Ev) (i:Nat),(q7i s i L).length=L.length
 |[],_=>rfl
 |e::r,i=>by rw[q7i,χ,q5q s r,χ]
theorem q5p(s:List UInt8): ∀(a b:List Ev) (i:Nat),q7i s i (a++b)=q7i s i a++q7i s (i+a.length) b
 |[],b,i=>rfl
 | e::r,b,i=>by
  rw[List.cons_append,q7i,q5p s r b,q7i,List.cons_append,χ]
  congr 3;omega
theorem numT_mem{s:List UInt8}{t:To}: ∀{L:List Ev} {i:Nat},t∈q7i s i L↔ ∃k,k<L.length/\t=⟨s,((i+k:Nat):Int),L.getD k ev0⟩
 |[],i=>by simp[q7i]
 | e ::r,i=>by
  rw[q7i,List.mem_cons,numT_mem]
  constructor
  ·rintro(h|⟨k,h1,h2⟩)
   ·exact⟨0,by simp,by rw[h];rfl⟩
   ·exact⟨k+1,by simpa using h1,by rw[h2,List.getD_cons_succ];congr 2;omega⟩
  ·rintro⟨k,h1,h2⟩
   cases k with
   |zero=>exact .inl h2
   |succ k=>exact .inr ⟨k,by simpa using h1,by rw[h2,List.getD_cons_succ];congr 2;omega⟩
theorem z7z(s:List UInt8): ∀(L:List Ev) (i:Nat),(q7i s i L).Pairwise fun x y=>x.v<y.v
 |[],_=>List.Pairwise.nil
 | e ::r,i=>List.pairwise_cons.2 ⟨fun t d=>by
   obtain⟨k,_,rfl⟩:=numT_mem.1 d
   simp only;omega,z7z s r _⟩
theorem q2o(a b:List Bt):tos (a++b)=tos a++tos b:=by unfold tos;rw[List.map_append,List.flatten_append]
theorem q7B(b:Bt):tos [b]=y4h b:=by unfold tos;simp
theorem q3r(b:Bt):(y4h b).length=b.ev.length:=q5q _ _ _
theorem q6p(bs:List Bt)(b:Bt)(s:List UInt8):q1V (bs++[b]) s=if b.st=s then q1V bs s++b.ev else q1V bs s:=by
 unfold q1V;rw[List.filter_append,List.map_append,List.flatten_append]
 split
 ·rename_i h;rw[List.filter_cons_of_pos (by simpa using h)];simp
 ·rename_i h;rw[List.filter_cons_of_neg (by simpa using h)];simp
theorem okBs.nil :okBs []:=fun l b r h=>by simp at h
theorem okBs_snoc{b:Bt}:okBs (bs++[b])↔okBs bs/\z5w b/\b.fi=(q1V bs b.st).length:=by
 constructor
 ·intro h
  exact⟨fun l c r e=>h l c (r++[b]) (by rw[e];simp),h bs b [] rfl⟩
 ·rintro⟨h1,h2⟩ l c r e
  rcases List.eq_nil_or_concat r with i|⟨q,d,i⟩
  ·subst i
   obtain⟨j,o⟩:=List.append_inj' e rfl;rw[<-j];injection o with o;subst o;exact h2
  ·rw[List.concat_eq_append] at i
   subst i;have e':bs++[b]=(l++c::q)++[d]:=by rw[e];simp
   obtain⟨j,_⟩:=List.append_inj' e' rfl;exact h1 l c q j
theorem z3h(h:okBs bs)(s:List UInt8):(tos bs).filter (fun t=>decide (t.s=s))=z9D bs s:=by
 revert h
 induction bs using z0s with
 |h0=>intro _;rfl
 | h1 l b ih=>
  intro h;obtain⟨h1,h2,h3⟩:=okBs_snoc.1 h;unfold z9D;rw[q2o,List.filter_append,ih h1,q7B,q6p];by_cases d:b.st=s
  ·rw [ξ d,q5p,Nat.zero_add,<-d,<-h3,List.filter_eq_self.2]
   ·rfl
   ·intro t i
    obtain⟨k,_,rfl⟩:=numT_mem.1 i;simp
  ·rw [κ d,List.filter_eq_nil_iff.2,List.append_nil]
   ·rfl
   ·intro t i
    obtain⟨k,_,rfl⟩:=numT_mem.1 i
    simpa using d
theorem y1v{t:To}:t∈tos bs↔ ∃b∈bs,∃k,k<b.ev.length/\t=⟨b.st,((b.fi+k:Nat):Int),b.ev.getD k ev0⟩:=by
 unfold tos;rw[List.mem_flatten]
 constructor
 ·rintro⟨l,j,o⟩
  obtain⟨b,d,rfl⟩:=List.mem_map.1 j;exact⟨b,d,numT_mem.1 o⟩
 ·rintro⟨b,d,i⟩
  exact⟨_,List.mem_map.2 ⟨b,d,rfl⟩,numT_mem.2 i⟩
theorem okBs.each(h:okBs bs){b:Bt}(d:b∈bs):z5w b:=by
 obtain⟨l,r,rfl⟩:=List.append_of_mem d;exact(h l b r rfl).1
theorem q7G(a b:List Bt)(s:List UInt8):q1V (a++b) s=q1V a s++q1V b s:=by
 unfold q1V;rw[List.filter_append,List.map_append,List.flatten_append]
theorem okBs.apart{l m r:List Bt}{b c:Bt}(h:okBs (l++b::m++c::r))(d:b.st=c.st):b.fi+b.ev.length<=c.fi:=by
 have h1:=h l b (m++c::r) (by simp);have h2:=h (l++b::m) c r (by simp);rw[h2.2,h1.2,q7G,θ,show b::m=[b]++m from rfl,q7G,θ,<-d];have:(q1V [b] b.st).length=b.ev.length:=by unfold q1V;simp
 omega
theorem y3o{l m:List To}(o:l.Pairwise fun x y=>x.v<y.v)(hm:m.Pairwise fun x y=>x.v<y.v)(h: ∀t,t∈l↔t∈m):l=m:=by
 induction l generalizing m with
 | nil=>
  cases m with
  |nil=>rfl
  |cons y m=>exact absurd ((h y).2 (.head _)) (by simp)
 | cons x l ih=>
  cases m with
  |nil=>exact absurd ((h x).1 (.head _)) (by simp)
  | cons y m=>
   obtain⟨h1,h2⟩:=List.pairwise_cons.1 o;obtain⟨h3,h4⟩:=List.pairwise_cons.1 hm;have j:x=y:=by
    rcases List.mem_cons.1 ((h x).1 (.head _)) with e|q
    ·exact e
    rcases List.mem_cons.1 ((h y).2 (.head _)) with e|r
    ·exact e.symm
    have a:=h1 y r;have b:=h3 x q;omega
   subst j;rw[ih h2 h4 fun t=>?_]
   constructor
   ·intro i
    rcases List.mem_cons.1 ((h t).1 (.tail _ i)) with e|d
    ·have:=h1 t i;rw[e] at this;omega
    ·exact d
   ·intro i
    rcases List.mem_cons.1 ((h t).2 (.tail _ i)) with e|d
    ·have:=h3 t i;rw[e] at this;omega
    ·exact d
abbrev Pbs :=List (Nat×Bt)
def q9B(P:Pbs):List (Nat×List UInt8):=P.map fun x=>(x.1,btB x.2)
def q3t(sd:Int)(P:Pbs):List En:=(P.map fun x=>q0o sd x.1 x.2 x.2.ev.length).flatten
def q1j(P:Pbs):List Bt:=P.map Prod.snd
def q2b(P:Pbs)(s:List UInt8)(x:En):Option To:=
 match P.find? (fun y=>decide ((y.1:Int)=x.2.2)) with
 |none=>none
 |some y=>if y.2.st=s/\(y.2.fi:Int)<=x.2.1/\x.2.1<(y.2.fi:Int)+(y.2.ev.length:Int) then some ⟨s,x.2.1,y.2.ev.getD (x.2.1-(y.2.fi:Int)).toNat ev0⟩ else none
structure StI(sd:Int)(B:List En)(P:Pbs):Prop where
 ok:okBs (q1j P)
 pos:P.Pairwise fun a b=>a.1<b.1
 ents: ∀x,x∈B↔x∈q3t sd P
theorem z2K(sd:Int): ∀{P:Pbs},(∀y∈P,z5w y.2)->z2d sd (q9B P)=some (q3t sd P)
 |[],_=>rfl
 | y::P,h=>by
  have d:=z2K sd (P:=P) fun z i=>h z (.tail _ i)
  have h1:=z3H y.2 (h y (.head _));unfold q9B at d⊢;rw[List.map_cons,z2d,h1,Option.bind_some,d]
  rfl
theorem mem_entsP{sd:Int}{P:Pbs}{x:En}:x∈q3t sd P↔ ∃y∈P,∃k,k<y.2.ev.length/\x=q2x sd y.1 y.2 k:=by
 unfold q3t;rw[List.mem_flatten]
 constructor
 ·rintro⟨l,o,j⟩
  obtain⟨y,i,rfl⟩:=List.mem_map.1 o;unfold q0o at j;obtain⟨k,d,rfl⟩:=List.mem_map.1 j;exact⟨y,i,k,List.mem_range.1 d,rfl⟩
 ·rintro⟨y,i,k,d,rfl⟩
  exact⟨_,List.mem_map.2 ⟨y,i,rfl⟩,by unfold q0o;exact List.mem_map.2 ⟨k,List.mem_range.2 d,rfl⟩⟩
theorem q7g : ∀{P:Pbs},P.Pairwise (fun a b=>a.1<b.1)-> ∀{y:Nat×Bt},y∈P->P.find? (fun z=>decide ((z.1:Int)=(y.1:Int)))=some y
 |[],_,y,h=>by cases h
 | z ::P,hp,y,h=>by
  obtain⟨h1,h2⟩:=List.pairwise_cons.1 hp;rcases List.mem_cons.1 h with rfl|h
  ·rw[List.find?_cons_of_pos (by simp)]
  ·rw[List.find?_cons_of_neg (by have:=h1 y h;simp;omega)]
   exact q7g h2 h
section
variable {sd :Int}{B:List En}{P:Pbs}
theorem q6O(h:P.Pairwise fun a b=>a.1<b.1){y:Nat×Bt}(i:y∈P)(j:k<y.2.ev.length)(s:List UInt8):q2b P s (q2x sd y.1 y.2 k)=if y.2.st=s then some ⟨s,((y.2.fi+k:Nat):Int),y.2.ev.getD k ev0⟩ else none:=by
 unfold q2b q2x;simp only;rw[q7g h i];simp only;by_cases d:y.2.st=s
 ·rw[ξ d,ξ ⟨d,by omega,by omega⟩,show((y.2.fi:Int)+(k:Int)-(y.2.fi:Int)).toNat=k by omega]
  congr 1
 ·rw[κ d,κ fun h=>d h.1]
theorem StI.found(h:StI sd B P){s:List UInt8}{x:En}(G:x∈B){t:To}:q2b P s x=some t↔ ∃y∈P,∃k,k<y.2.ev.length/\x=q2x sd y.1 y.2 k/\y.2.st=s/\t=⟨s,((y.2.fi+k:Nat):Int),y.2.ev.getD k ev0⟩:=by
 obtain⟨y,q,k,i,rfl⟩:=mem_entsP.1 ((h.ents x).1 G);rw[q6O h.pos q i]
 constructor
 ·intro d
  split at d
  ·rename_i o
   injection d with d;exact⟨y,q,k,i,rfl,o,d.symm⟩
  ·cases d
 ·rintro⟨z,I,j,r,he,o,rfl⟩
  have h1:=q6O (sd:=sd) h.pos q i s;have h2:=q6O (sd:=sd) h.pos I r s;rw[<-he,h1,ξ o] at h2;exact h2
theorem StI.mem_str(h:StI sd B P){s:List UInt8}{t:To}:t∈z9D (q1j P) s↔ ∃y∈P,∃k,k<y.2.ev.length/\y.2.st=s/\t=⟨s,((y.2.fi+k:Nat):Int),y.2.ev.getD k ev0⟩:=by
 rw[<-z3h h.ok,List.mem_filter,y1v]
 constructor
 ·rintro⟨⟨b,o,k,i,rfl⟩,d⟩
  obtain⟨y,j,rfl⟩:=List.mem_map.1 o;simp only[Φ] at d;exact⟨y,j,k,i,d,by rw[d]⟩
 ·rintro⟨y,j,k,i,d,rfl⟩
  exact⟨⟨y.2,List.mem_map.2 ⟨y,j,rfl⟩,k,i,by rw[d]⟩,by simp⟩
theorem StI.between(h:StI sd B P)(hB:q1G B)(s:List UInt8)(a b:Int):(q1A B (q2m sd s) a b).filterMap (q2b P s)=(z9D (q1j P) s).filter fun t=>decide (a<=t.v/\t.v<=b):=by
 refine y3o ?_ ((z7z _ _ _).filter _) fun t=>?_
 ·rw [List.pairwise_filterMap]
  refine List.Pairwise.imp_of_mem ?_ (q5P hB (q2m sd s) a b);intro x y O Q d t ht u hu;obtain⟨I,a0,J,N⟩:=mem_range.1 O;obtain⟨b0,c0,d0,e0⟩:=mem_range.1 Q;obtain⟨p,hp,i,hi,rfl,R,rfl⟩:=(h.found I).1 ht;obtain⟨q,hq,j,hj,rfl,S,rfl⟩:=(h.found b0).1 hu;rw[lessE_iff] at d;unfold q2x at d;simp only at d⊢;rw[R,S] at d;rcases d with d|⟨_,d|⟨he,Z⟩⟩
  ·omega
  ·omega
  ·exfalso
   obtain⟨l,r,hl⟩:=List.append_of_mem hp;have o:=h.ok;have G:=h.pos;rw[hl] at o G hq;rcases List.mem_append.1 hq with hq|hq
   ·have:=(List.pairwise_append.1 G).2.2 q hq p (.head _)
    omega
   ·rcases List.mem_cons.1 hq with hq|hq
    ·rw[hq] at Z;omega
    ·obtain⟨m,r2,hm⟩:=List.append_of_mem hq
     rw[hm] at o;unfold q1j at o;rw[List.map_append,List.map_cons,List.map_append,List.map_cons] at o;have:=okBs.apart (l:=l.map Prod.snd) (b:=p.2) (m:=m.map Prod.snd) (c:=q.2) (r:=r2.map Prod.snd) (by rw[List.append_assoc,List.cons_append];exact o) (by rw[R,S]);omega
 ·rw [List.mem_filterMap,List.mem_filter,h.mem_str,Φ]
  constructor
  ·rintro⟨x,O,ht⟩
   obtain⟨I,a0,J,N⟩:=mem_range.1 O;obtain⟨y,Q,k,U,rfl,X,rfl⟩:=(h.found I).1 ht;unfold q2x at J N;simp only at J N⊢;exact⟨⟨y,Q,k,U,X,rfl⟩,by omega,by omega⟩
  ·rintro⟨⟨y,Q,k,U,X,rfl⟩,h1,h2⟩
   simp only at h1 h2;have O:q2x sd y.1 y.2 k∈B:=(h.ents _).2 (mem_entsP.2 ⟨y,Q,k,U,rfl⟩);refine⟨q2x sd y.1 y.2 k,mem_range.2 ⟨O,?_,?_,?_⟩,(h.found O).2 ⟨y,Q,k,U,rfl,X,rfl⟩⟩
   ·unfold q2x;simp only;rw[X]
   ·unfold q2x;simp only;omega
   ·unfold q2x;simp only;omega
theorem StI.has(h:StI sd B P){s:List UInt8}{v:Nat}(o:v<(q1V (q1j P) s).length): ∃x∈B,x.1=q2m sd s/\x.2.1=(v:Int):=by
 have j:(⟨s,((0+v:Nat):Int),(q1V (q1j P) s).getD v ev0⟩:To)∈z9D (q1j P) s:=numT_mem.2 ⟨v,o,rfl⟩;obtain⟨y,q,k,d,i,he⟩:=h.mem_str.1 j;injection he with _ he _;refine⟨q2x sd y.1 y.2 k,(h.ents _).2 (mem_entsP.2 ⟨y,q,k,d,rfl⟩),?_,?_⟩
 ·unfold q2x;simp only;rw[i]
 ·unfold q2x;simp only;omega
theorem StI.last(h:StI sd B P)(G:okM B){s:List UInt8}{u r:Int}(U:((q1V (q1j P) s).length:Int)-1<=u)(j:z3s B (q2m sd s) u r):
  ((q1V (q1j P) s).length:Int)-1<=r/\ -1<=r/\(r<0->q1V (q1j P) s=[])/\(0<=r->(z9D (q1j P) s).filter (fun t=>decide (r<=t.v/\t.v<=r))=[]->((q1V (q1j P) s).length:Int)-1<=r-1)/\
   ((z9D (q1j P) s).filter (fun t=>decide (r<=t.v/\t.v<=r))≠[]->((q1V (q1j P) s).length:Int)-1=r):=by
 have q: -1<=r:=by
  rcases j.2 with e|⟨y,Q,_,_,e⟩
  ·omega
  ·have:=okEn_iff.1 (G.ok y Q);omega
 have h1:((q1V (q1j P) s).length:Int)-1<=r:=by
  rcases Nat.eq_zero_or_pos (q1V (q1j P) s).length with e|e
  ·omega
  ·obtain⟨x,O,o,R⟩:=h.has (s:=s) (v:=(q1V (q1j P) s).length-1) (by omega)
   have:=j.1 x O o (by omega);omega
 refine⟨h1,q,fun N=>?_,fun N he=>?_,fun d=>?_⟩
 ·exact List.length_eq_zero_iff.1 (by omega)
 ·rcases Int.lt_or_le (((q1V (q1j P) s).length:Int)-1) r with J|I
  ·omega
  ·exfalso
   have i:(⟨s,((0+r.toNat:Nat):Int),(q1V (q1j P) s).getD r.toNat ev0⟩:To)∈z9D (q1j P) s:=numT_mem.2 ⟨r.toNat,by omega,rfl⟩;have:=(List.mem_filter (p:=fun t:To=>decide (r<=t.v/\t.v<=r))).2 ⟨i,by simp;omega⟩;rw[he] at this
   cases this
 ·obtain⟨t,i⟩:=List.exists_mem_of_ne_nil _ d
  obtain⟨h2,h3⟩:=List.mem_filter.1 i;obtain⟨k,S,rfl⟩:=numT_mem.1 h2;simp only[Φ] at h3;omega
end
theorem z5i(sd:Int)(P:Pbs)(p:Nat)(b:Bt):q3t sd (P++[(p,b)])=q3t sd P++q0o sd p b b.ev.length:=by
 unfold q3t;rw[List.map_append,List.flatten_append];simp
theorem q4H(P:Pbs)(p:Nat)(b:Bt):q1j (P++[(p,b)])=q1j P++[b]:=by unfold q1j;rw[List.map_append];rfl
theorem mem_addEs{x:En}: ∀{es L:List En},x∈q1Y es L↔x∈es\/x∈L
 |[],L=>by unfold q1Y;simp
 | e ::es,L=>by
  have h:=mem_addEs (x:=x) (es:=es) (L:=q4G e L);unfold q1Y at*;rw[List.foldl_cons,h,mem_addE,List.mem_cons]
  constructor
  ·rintro(h|h|h)
   ·exact .inl (.inr h)
   ·exact .inl (.inl h)
   ·exact .inr h
  ·rintro((h|h)|h)
   ·exact .inr (.inl h)
   ·exact .inl h
   ·exact .inr (.inr h)
theorem StI.snoc{sd:Int}{B:List En}{P:Pbs}(h:StI sd B P){b:Bt}(i:z5w b)(j:b.fi=(q1V (q1j P) b.st).length)(o: ∀y∈P,y.1<p):StI sd (q1Y (q0o sd p b b.ev.length) B) (P++[(p,b)]):=by
 refine⟨by rw[q4H];exact okBs_snoc.2 ⟨h.ok,i,j⟩,?_,fun x=>?_⟩
 ·rw[List.pairwise_append]
  exact⟨h.pos,List.pairwise_singleton _ _,fun a d c hc=>by obtain rfl:=List.mem_singleton.1 hc;exact o a d⟩
 ·rw[mem_addEs,z5i,List.mem_append,h.ents]
  exact Or.comm
theorem q4w(sd:Int)(P:Pbs):(q3t sd P).length=(tos (q1j P)).length:=by
 unfold q3t tos q1j;rw[List.length_flatten,List.length_flatten,List.map_map,List.map_map,List.map_map]
 congr 1
 refine List.map_congr_left fun x _=>?_
 simp only[Function.comp];rw[q4Z,q3r]
theorem StI.len{sd:Int}{B:List En}{P:Pbs}(h:StI sd B P)(i:q1G B):B.length<=(tos (q1j P)).length:=by
 rw[<-q4w sd];have j:B.Nodup:=i.imp fun {a b} d e=>by rw[e,q0j] at d;cases d
 exact nodup_leB j fun x o=>(h.ents x).1 o
where nodup_leB {α:Type} [DecidableEq α]: ∀{l m:List α},l.Nodup->(∀x∈l,x∈m)->l.length<=m.length
 |[],_,_,_=>υ _
 | x::l,m,h,hm=>by
  obtain⟨h1,h2⟩:=List.nodup_cons.1 h;have hx:=hm x (.head _);have h3:=nodup_leB (m:=m.erase x) h2 fun y hy=>(List.mem_erase_of_ne (fun e:y=x=>h1 (by rw[<-e];exact hy))).2 (hm y (.tail _ hy))
  rw[List.length_erase_of_mem hx] at h3;have:=List.length_pos_of_mem hx;rw[χ];omega
end
end Go.Proofs.YtfiibpgoplcgkaaGreatDoor
