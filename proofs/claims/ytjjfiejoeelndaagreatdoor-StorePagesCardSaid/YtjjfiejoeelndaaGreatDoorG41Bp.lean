/- Walks. -/
import Derived.Test.YtjjfiejoeelndaaGreatDoorG37Bp
import Derived.Test.YtjjfiejoeelndaaGreatDoorG39Bp
import Derived.WideKeyEntry
import Derived.Test.YtjjfiejoeelndaaGreatDoorG33Bp
import Derived.Test.YtjjfiejoeelndaaGreatDoorG40Bp
set_option linter.unusedVariables false
set_option linter.unusedSimpArgs false
set_option maxRecDepth 100000
set_option maxHeartbeats 12800000
namespace Go.Proofs.YtjjfiejoeelndaaGreatDoor
theorem η41 {p:Prop} (h:p):Go.RowKit.Hid p:=Lib.hid h
section
open Go.RowKit Go.Maps
def Man.S (m:Man):List UInt8:=(q2e m.nx m.ck m.sd m.L).1
def Man.E (m:Man):Int:=(q2e m.nx m.ck m.sd m.L).2
def q2H (σ:DM) (m:Man) (n:Int) (l:List En) (f:List UInt8):Int×Option (List En)×DM:=
 if (q0g σ n l f).1≠0 then ((q0g σ n l f).1,none,(q2U (q0g σ n l f).2 n).2)
 else if (q2E (q0g σ n l f).2 m.S m.E).1≠0 then ((q2E (q0g σ n l f).2 m.S m.E).1,none,(q2U (q2E (q0g σ n l f).2 m.S m.E).2 n).2)
 else match q5C (q2E (q0g σ n l f).2 m.S m.E).2 n with
 |(none,e,τ)=>(e,none,τ)
 |(some L,_,τ)=>(0,some L,τ)
theorem Man.E_ok {m:Man} (h:m.E=0):q0Z m.nx m.ck m.L=true:=by
 cases hv:q0Z m.nx m.ck m.L with
 |true=>rfl
 |false=>unfold Man.E q2e at h;rw[hv] at h;cases h
theorem Man.E_valid {m:Man} (h:q0Z m.nx m.ck m.L=true):m.E=0:=by unfold Man.E q2e;rw[h];rfl
theorem Man.S_le (m:Man):m.S.length≤300:=by
 cases hv:q0Z m.nx m.ck m.L with
 |true=>unfold Man.S q2e;rw[hv];exact y3e m.sd hv
 |false=>unfold Man.S q2e;rw[hv];simp
theorem y1Z {σ τ:DM} {S:List UInt8} {E:Int} (h:q2E σ S E=(0,τ)):E=0:=by
 unfold q2E at h
 split at h
 ·injection h
 ·next h1=>exact Decidable.not_not.1 h1
theorem z6X {c:Int} (h:c≠0):q1q c≠0:=by
 rcases z6O c with e|e<;>rw[e]
 ·exact h
 ·decide
theorem z0o {σ τ:DM} {n e:Int} (h:q5C σ n=(none,e,τ)):e≠0:=by
 unfold q5C at h
 split at h
 ·next h1=>injection h with _ h2;injection h2 with h2 _;rw[←h2];exact z6X h1
 ·split at h
  ·injection h with _ h2;injection h2 with h2 _;rw[←h2];decide
  ·split at h
   ·injection h with _ h2;injection h2 with h2 _;rw[←h2];decide
   ·injection h with h1 _;cases h1
theorem q9s {σ τ:DM} {n e:Int} {L:List En} (h:q5C σ n=(some L,e,τ)):e=0:=by
 unfold q5C at h
 split at h
 ·injection h with h1 _;cases h1
 ·split at h
  ·injection h with h1 _;cases h1
  ·split at h
   ·injection h with h1 _;cases h1
   ·injection h with _ h2;injection h2 with h2 _;exact h2.symm
theorem q9w {σ τ:DM} {m:Man} {n c:Int} {l:List En} {f:List UInt8} (h:q2H σ m n l f=(c,none,τ)):c≠0:=by
 unfold q2H at h
 split at h
 ·next h1=>injection h with h2 _;rw[←h2];exact h1
 ·split at h
  ·next h1=>injection h with h2 _;rw[←h2];exact h1
  ·split at h
   ·next h1=>injection h with h2 _;rw[←h2];exact z0o h1
   ·injection h with _ h2;injection h2 with h2 _;cases h2
theorem z0A {σ τ:DM} {m:Man} {n c:Int} {l L:List En} {f:List UInt8} (h:q2H σ m n l f=(c,some L,τ)):c=0:=by
 unfold q2H at h
 split at h
 ·injection h with _ h2;injection h2 with h2 _;cases h2
 ·split at h
  ·injection h with _ h2;injection h2 with h2 _;cases h2
  ·split at h
   ·injection h with _ h2;injection h2 with h2 _;cases h2
   ·injection h with h2 _;exact h2.symm
theorem z3t {H:Type} {P:Program} {k e t:TypeId} {R:Value→Option (DataW H×List MemPlace)} {w:World} {b:Nat} {es:Array MapEntry} {clock:Nat} (K:Keyed P k) (ht:P.underlying t=some (.map k e))
  {z:Value} (hz: ∀u:World,(zeroValue e).run P u= .ok z u) (hb:w.heap[b]? =some (.map es clock)) (F:WideElems.Fit P k R es clock) {key:Value} {kl:Lit} (hk:keyOf P k key=some kl) (val:Value):
  ∃ (v0:Value) (sn:Nat) (es1 es2:Array MapEntry) (c:Nat),(Instr.mapEntry t (.map (some b)) key).run P w= .ok (.tuple #[v0,goInt sn]) (ChangeMaps.setBlock w b (.map es1 c))∧
   (Instr.mapUpdate t (.map (some b)) key val).run P w= .ok () (ChangeMaps.setBlock w b (.map es2 c))∧
   ∀u:World,u.heap[b]? =some (.map es1 c)→(Instr.entryStore t (.map (some b)) (goInt sn) val).run P u= .ok () (ChangeMaps.setBlock u b (.map es2 c)):=by
 obtain ⟨hlt,hnd,_⟩:=F.stamped;rcases K.find w hk es.toList F.keys with ⟨hf,hno⟩|⟨j,e0,hf,hat,hkey⟩
 ·have hnd2:((es.toList++[(⟨key,z,clock⟩:MapEntry)]).map (·.born)).Nodup:=by
   rw[List.map_append,List.nodup_append];refine ⟨hnd,by simp,fun a ha c hc hac=>?_⟩;obtain ⟨x,hx,rfl⟩:=List.mem_map.1 ha;have h1:=hlt x hx;simp at hc;omega
  have hidx:(es.push ⟨key,z,clock⟩).findIdx? (fun x=>((x.born:Nat):Int)==((clock:Nat):Int))=some es.size:=by
   rw[WideElems.findIdx_arr,Array.toList_push];exact WideElems.findIdx_born (e0:=⟨key,z,clock⟩) hnd2 (by rw[List.getElem?_append_right (by simp)];simp)
  have hset:(es.push ⟨key,z,clock⟩).modify es.size (fun x=>{x with val:=val})=es.push ⟨key,val,clock⟩:=by
   refine Array.ext (by simp) fun i h1 h2=>?_
   rw[Array.getElem_modify,Array.getElem_push,Array.getElem_push];by_cases hi:i<es.size
   ·rw[if_neg (by omega),dif_pos hi,dif_pos hi]
   ·have:es.size=i:=by simp at h2;omega
    rw[if_pos this,dif_neg hi,dif_neg hi]
  refine ⟨z,clock,es.push ⟨key,z,clock⟩,es.push ⟨key,val,clock⟩,clock+1,?_,?_,fun u hu=>?_⟩
  ·simp[Instr.mapEntry,run_underlying ht,MapKept.run_getObj_map hb,K.check w false hk,hf,hz,MapKept.run_setObj_map _ hb,Result.andThen,ChangeMaps.setBlock]
  ·simp[Instr.mapUpdate,run_underlying ht,MapKept.run_getObj_map hb,K.check w false hk,hf,MapKept.run_setObj_map _ hb,Result.andThen,ChangeMaps.setBlock]
  ·simp[Instr.entryStore,MapKept.run_getObj_map hu,asInt,asIntOf,goInt,hidx,hset,MapKept.run_setObj_map _ hu,Result.andThen,ChangeMaps.setBlock]
 ·have hj:es[j]? =some e0:=by simpa using hat
  have hself:es.modify j (fun x=>{x with key:=key})=es:=by
   refine Array.ext (by simp) fun i h1 h2=>?_
   rw[Array.getElem_modify]
   split
   ·next hji=>
    subst hji;have:es[j]=e0:=by rw[Array.getElem?_eq_getElem h2] at hj;injection hj
    rw[this,←hkey]
   ·rfl
  have hidx:es.findIdx? (fun x=>((x.born:Nat):Int)==((e0.born:Nat):Int))=some j:=by
   rw[WideElems.findIdx_arr];exact WideElems.findIdx_born hnd hat
  have hset:es.modify j (fun x=>{x with val:=val})=es.modify j (fun x=>{x with key:=key,val:=val}):=by
   refine Array.ext (by simp) fun i h1 h2=>?_
   rw[Array.getElem_modify,Array.getElem_modify]
   split
   ·next hji=>
    subst hji;have h3:j<es.size:=by simpa using h2
    have:es[j]=e0:=by rw[Array.getElem?_eq_getElem h3] at hj;injection hj
    rw[this,←hkey]
   ·rfl
  refine ⟨e0.val,e0.born,es,es.modify j (fun x=>{x with key:=key,val:=val}),clock,?_,?_,fun u hu=>?_⟩
  ·simp[Instr.mapEntry,run_underlying ht,MapKept.run_getObj_map hb,K.check w false hk,hf,hj,hkey,K.stays w hk,hself,MapKept.run_setObj_map _ hb,Result.andThen,ChangeMaps.setBlock]
  ·simp[Instr.mapUpdate,run_underlying ht,MapKept.run_getObj_map hb,K.check w false hk,hf,hj,hkey,K.stays w hk,MapKept.run_setObj_map _ hb,Result.andThen,ChangeMaps.setBlock]
  ·simp[Instr.entryStore,MapKept.run_getObj_map hu,asInt,asIntOf,goInt,hidx,hset,MapKept.run_setObj_map _ hu,Result.andThen,ChangeMaps.setBlock]
theorem z7Q {w:World} {gt nn:Nat} {D:DataW Unit} (h:w.ownsMap Tryz.prog 3 q5Y gt nn D) (hn:nn<maxLen) {n:Int} (hw:(Lit.int .i64 n).wf=true) (b:Nat):
  ∃ (v0:Value) (sn:Nat) (W1 W2:World),(Instr.mapEntry 140 (.map (some gt)) (.int .i64 n)).run Tryz.prog w= .ok (.tuple #[v0,.int .i64 (sn:Int)]) W1∧
   (Instr.entryStore 140 (.map (some gt)) (.int .i64 (sn:Int)) (.pointer (some ⟨b,0,none⟩))).run Tryz.prog W1= .ok () W2∧
   W2.ownsMap Tryz.prog 3 q5Y gt (nn+1) (D.put (.int .i64 n) (.lit (.int .i64 b)))∧OffS (fun i=>i=gt) w W2:=by
 have h0:=h;obtain ⟨es,clock,hb,F,hs,hD⟩:=h;obtain ⟨v0,sn,es1,es2,c,h1,h2,h3⟩:=z3t (w:=w) Tryz.keyInt Tryz.underlying140 y2p hb F (keyOf_int_mk Tryz.underlying3 hw) (.pointer (some ⟨b,0,none⟩));obtain ⟨w',hr,hown,hg⟩:=h0.update Tryz.keyInt Tryz.underlying140 hn (keyOf_int_mk Tryz.underlying3 hw) (z1P b);rw[h2] at hr;injection hr with _ hr;subst hr;have hs1:=ChangeMaps.heap_setBlock_same hb (.map es1 c);refine ⟨v0,sn,_,_,h1,h3 _ hs1,q1w hown ?_,⟨rfl,rfl,rfl,by simp[ChangeMaps.setBlock],fun i hi hn=>?_⟩⟩
 ·rw[ChangeMaps.heap_setBlock_same hb,ChangeMaps.heap_setBlock_same hs1]
 ·rw[ChangeMaps.heap_setBlock_other hs1 _ hn,ChangeMaps.heap_setBlock_other hb _ hn]
end
section
open Go.RowKit
abbrev Fls :=List UInt8→Option (List UInt8)
def q6V (φ:Fls) (nm t:List UInt8):Fls:=fun x=>if x=nm then some t else φ x
def q9O (φ:Fls) (nm:List UInt8):Fls:=fun x=>if x=nm then none else φ x
def Fl (σ:DM) (c s:Int) (φ:Fls) (u cnt:Nat):Prop:= ∃l,Pl σ c s l∧q3N Prod.fst l∧(∀nm,(q0H Prod.fst nm l).map Prod.snd=φ nm)∧q1i l≤u∧l.length≤cnt
section
variable {σ :DM} {c s:Int} {l:List (List UInt8×List UInt8)} {nm t a b:List UInt8} {x:List UInt8×List UInt8} {φ:Fls} {u cnt:Nat}
theorem Pl.delete (h:Pl σ c s l) (hf:q0H Prod.fst nm l=some x): ∃σ',q0V σ nm=(0,σ')∧Pl σ' c s (delN Prod.fst nm l):=by
 obtain ⟨f,h1,rfl⟩:=h.find_some hf;refine ⟨{q1d σ with L:=delN FM.nm nm σ.L},?_,h.up,h.fine,?_,h.cap,h.st⟩
 ·unfold q0V
  rw[if_neg (by rw[h.up];decide),h1,if_neg (by simp),if_neg (by rw[h.no];decide)]
 ·rw[←h.files]
  exact q6N (k:=FM.nm) (k':=Prod.fst) q6m nm σ.L
theorem Pl.deleteN (h:Pl σ c s l) (hf:q0H Prod.fst nm l=none):q0V σ nm=(4,σ):=by
 unfold q0V;rw[if_neg (by rw[h.up];decide),h.find_none hf,if_pos (by simp)]
theorem Pl.rename (h:Pl σ c s l) (hf:q0H Prod.fst a l=some x) (hb:q2a b=true) (hne:a≠b): ∃σ',q1g σ a b=(0,σ')∧Pl σ' c s (q2A Prod.fst (b,x.2) (delN Prod.fst a (delN Prod.fst b l))):=by
 obtain ⟨f,h1,rfl⟩:=h.find_some hf;refine ⟨{q1d σ with L:=z6Y a b f σ.L},?_,h.up,h.fine,?_,h.cap,h.st⟩
 ·unfold q1g
  rw[if_neg (by rw[h.up];decide),h1];simp only;rw[if_neg (by rw[hb];decide),if_neg (by rw[h.no];decide),if_neg hne]
 ·rw[←h.files]
  show (z6Y a b f σ.L).map fbF=_;unfold z6Y;rw[q6A (k:=FM.nm) (k':=Prod.fst) q6m,q6N (k:=FM.nm) (k':=Prod.fst) q6m,q6N (k:=FM.nm) (k':=Prod.fst) q6m]
  rfl
theorem z0r (nm:List UInt8) (l:List (List UInt8×List UInt8)):q0H Prod.fst nm (delN Prod.fst nm l)=none:=q0c fun y hy=>(mem_delN.1 hy).2
theorem q8f {nm d:List UInt8} (l:List (List UInt8×List UInt8)) (hne:nm≠d):q0H Prod.fst nm (delN Prod.fst d l)=q0H Prod.fst nm l:=by
 unfold q0H delN;rw[List.find?_filter]
 congr 1
 funext y
 by_cases hy:y.1=nm
 ·have h1:(y.1==nm)=true:=by simpa using hy
  have h2:(y.1==d)=false:=by rw[hy];simpa using hne
  rw[h1,h2];rfl
 ·have h1:(y.1==nm)=false:=by simpa using hy
  rw[h1];simp
theorem z2t (nm:List UInt8) (l:List (List UInt8×List UInt8)):q1i (delN Prod.fst nm l)≤q1i l:=by
 unfold q1i q5d delN
 induction l with
 |nil=>exact Nat.le_refl _
 | cons y r ih=>
  rw[List.filter_cons]
  split
  ·simp only[List.map_cons,List.sum_cons];omega
  ·simp only[List.map_cons,List.sum_cons];omega
theorem z6q (nm:List UInt8) (l:List (List UInt8×List UInt8)):(delN Prod.fst nm l).length≤l.length:=List.length_filter_le _ _
theorem Fl.find (hl: ∀nm,(q0H Prod.fst nm l).map Prod.snd=φ nm) (h:φ nm=some t):q0H Prod.fst nm l=some (nm,t):=by
 have h1:=hl nm;rw[h] at h1
 cases hf:q0H Prod.fst nm l with
 |none=>rw[hf] at h1;cases h1
 | some y=>
  rw[hf] at h1;have h2:=(q0L hf).2;injection h1 with h1;rw[←h1,←h2]
theorem Fl.noFind (hl: ∀nm,(q0H Prod.fst nm l).map Prod.snd=φ nm) (h:φ nm=none):q0H Prod.fst nm l=none:=by
 have h1:=hl nm;rw[h] at h1
 cases hf:q0H Prod.fst nm l with
 |none=>rfl
 |some y=>rw[hf] at h1;cases h1
theorem Fl.put (hl: ∀nm,(q0H Prod.fst nm l).map Prod.snd=φ nm) (h:φ nm=none) (t:List UInt8): ∀x,(q0H Prod.fst x (q2A Prod.fst (nm,t) l)).map Prod.snd=q6V φ nm t x:=fun x=>by
 unfold q6V;by_cases hx:x=nm
 ·subst hx
  rw[if_pos rfl,q6W (k:=Prod.fst) (x:=(x,t)) (q0f (Fl.noFind hl h))]
  rfl
 ·rw[if_neg hx,q3o (k:=Prod.fst) (x:=(nm,t)) (fun e=>hx e.symm)]
  exact hl x
theorem Fl.cut (hl: ∀nm,(q0H Prod.fst nm l).map Prod.snd=φ nm) (nm:List UInt8): ∀x,(q0H Prod.fst x (delN Prod.fst nm l)).map Prod.snd=q9O φ nm x:=fun x=>by
 unfold q9O;by_cases hx:x=nm
 ·subst hx;rw[if_pos rfl,z0r];rfl
 ·rw[if_neg hx,q8f l hx];exact hl x
theorem Fl.up (h:Fl σ c s φ u cnt):σ.down=false:=by obtain ⟨l,h1,_⟩:=h;exact h1.up
theorem Fl.mono (h:Fl σ c s φ u cnt) {u' cnt':Nat} (h1:u≤u') (h2:cnt≤cnt'):Fl σ c s φ u' cnt':=by
 obtain ⟨l,a1,a2,a3,a4,a5⟩:=h;exact ⟨l,a1,a2,a3,by omega,by omega⟩
theorem Fl.tell (h:Fl σ c s φ u cnt):Fl (q2c σ) c s φ u cnt:=by
 obtain ⟨l,a1,a2,a3,a4,a5⟩:=h;exact ⟨l,a1.tell,a2,a3,a4,a5⟩
theorem Fl.tells : ∀(k:Nat) {σ:DM},Fl σ c s φ u cnt→Fl (tellN k σ) c s φ u cnt
 |0,_,h=>h
 |k+1,σ,h=>by rw[q1x];exact Fl.tells k h.tell
theorem Fl.del (h:Fl σ c s φ u cnt) (hf:φ nm=some t): ∃σ',q0V σ nm=(0,σ')∧Fl σ' c s (q9O φ nm) u cnt:=by
 obtain ⟨l,a1,a2,a3,a4,a5⟩:=h;obtain ⟨σ',e,p⟩:=a1.delete (Fl.find a3 hf);exact ⟨σ',e,_,p,q2X a2,Fl.cut a3 nm,Nat.le_trans (z2t nm l) a4,Nat.le_trans (z6q nm l) a5⟩
theorem Fl.write (h:Fl σ c s φ u cnt) {n:Int} (hn:0≤n∧n≤999999) {L:List En} (hs:q2V L=true) {f:List UInt8} (h1:φ (q0B 116 n)=none) (h2:φ (q0B 98 n)=none) (hm:cnt<398)
  (hr:6000≤c-(u:Int)-((q2Q L).length:Int)-(f.length:Int)): ∃σ',q0g σ n L f=(0,σ')∧Fl σ' c s (q6V (q6V φ (q0B 98 n) f) (q0B 116 n) (q2Q L)) (u+f.length+(q2Q L).length) (cnt+2):=by
 obtain ⟨l,a1,a2,a3,a4,a5⟩:=h;obtain ⟨σ',e,p⟩:=a1.write hn hs (f:=f) (Fl.noFind a3 h1) (Fl.noFind a3 h2) (by omega) (by omega);have h3:q6V φ (q0B 98 n) f (q0B 116 n)=none:=by unfold q6V;rw[if_neg (q3b n n hn hn)];exact h1
 have b3:=Fl.put a3 h2 f;refine ⟨σ',e,_,p,q3v (q3v a2 (q0f (Fl.noFind a3 h2))) (q0f (Fl.noFind b3 h3)),Fl.put b3 h3 _,by rw[q4y,q4y];simp only;omega,by rw[q2l,q2l];omega⟩
theorem Fl.swap (h:Fl σ c s φ u cnt) {S:List UInt8} (h1:φ q2g=none) (hm:cnt<400) (hr:6000≤c-(u:Int)-(S.length:Int)): ∃σ',q2E σ S 0=(0,σ')∧Fl σ' c s (q6V φ mapN S) (u+S.length) (cnt+1):=by
 obtain ⟨l,a1,a2,a3,a4,a5⟩:=h;have hn:=Fl.noFind a3 h1;have hg:q9U σ q2g=(0,σ):=by unfold q9U;rw[a1.deleteN hn];simp
 obtain ⟨σ1,e1,p1⟩:=a1.create hn (by decide) (by omega);have hx1:=q6W (k:=Prod.fst) (x:=(q2g,([]:List UInt8))) (q0f hn);obtain ⟨σ2,e2,p2⟩:=p1.append (t:=S) hx1 (by rw[q4y];simp only[List.length_nil];omega);rw[z0w (q0f hn)] at p2;have hx2:=q6W (k:=Prod.fst) (x:=(q2g,S)) (q0f hn);obtain ⟨σ3,e3,p3⟩:=p2.sync hx2;obtain ⟨σ4,e4,p4⟩:=p3.rename (b:=mapN) hx2 (by decide) new_ne_map;have o1:q3N Prod.fst (q2A Prod.fst (q2g,S) l):=q3v a2 (q0f hn);have b3:=Fl.put a3 h1 S;have b4:=Fl.cut (Fl.cut b3 mapN) q2g;have hmn:q9O (q9O (q6V φ q2g S) mapN) q2g mapN=none:=by unfold q9O;rw[if_neg new_ne_map.symm,if_pos rfl]
 refine ⟨σ4,?_,_,p4,q3v (q2X (q2X o1)) (q0f (Fl.noFind b4 hmn)),fun x=>?_,?_,?_⟩
 ·unfold q2E
  rw[if_neg (fun h=>h rfl),if_neg (by rw[a1.up];decide),hg];unfold q3t;simp only[if_true];unfold y2C;rw[a1.free,if_neg (by omega),e1];unfold q3t;simp only[if_true];rw[e2];simp only[if_true];rw[e3];simp only[if_true];rw[e4]
 ·rw [Fl.put b4 hmn S x]
  unfold q6V q9O;by_cases hx:x=mapN
  ·simp[hx]
  ·by_cases hx2:x=q2g
   ·simp[hx2,h1,new_ne_map]
   ·simp[hx,hx2]
 ·have hx3:q0H Prod.fst q2g (delN Prod.fst mapN (q2A Prod.fst (q2g,S) l))=some (q2g,S):=by rw[q8f _ new_ne_map];exact hx2
  have h5:=q7t (fun x:List UInt8×List UInt8=>x.2.length) (q2X o1) hx3;have h6:=z2t mapN (q2A Prod.fst (q2g,S) l);rw[q4y] at h6⊢;unfold q1i at h6 a4⊢;simp only at h5 h6⊢;omega
 ·have hx3:q0H Prod.fst q2g (delN Prod.fst mapN (q2A Prod.fst (q2g,S) l))=some (q2g,S):=by rw[q8f _ new_ne_map];exact hx2
  have h5:=q8S (q2X o1) hx3;have h6:=z6q mapN (q2A Prod.fst (q2g,S) l);rw[q2l] at h6⊢;show (delN Prod.fst q2g (delN Prod.fst mapN (q2A Prod.fst (q2g,S) l))).length+1≤cnt+1;omega
theorem Fl.wl (h:Fl σ c s φ u cnt) {n:Int} {L:List En} (hf:φ (q0B 116 n)=some (q2Q L)):Wl σ n L:=by
 obtain ⟨l,a1,a2,a3,a4,a5⟩:=h;exact a1.wl (Fl.find a3 hf)
theorem Fl.drop (h:Fl σ c s φ u cnt) {n:Int} (hn:0≤n∧n≤999999) {x y:List UInt8} (h1:φ (q0B 116 n)=some x) (h2:φ (q0B 98 n)=some y): ∃σ',q2U σ n=(0,σ')∧Fl σ' c s (q9O (q9O φ (q0B 116 n)) (q0B 98 n)) u cnt:=by
 obtain ⟨σ1,e1,p1⟩:=h.del h1;obtain ⟨σ2,e2,p2⟩:=p1.del (nm:=q0B 98 n) (t:=y) (by unfold q9O;rw[if_neg (q3b n n hn hn).symm];exact h2);refine ⟨σ2,?_,p2⟩;unfold q2U;rw[e1];simp only;rw[if_pos (.inl rfl),e2,if_pos (.inl rfl)]
theorem Fl.exact (h:Fl σ c s φ u cnt): ∃u0,u0≤u∧Fl σ c s φ u0 cnt∧q4Q σ=c-(u0:Int):=by
 obtain ⟨l,a1,a2,a3,a4,a5⟩:=h;exact ⟨q1i l,a4,⟨l,a1,a2,a3,Nat.le_refl _,a5⟩,a1.free⟩
theorem Fl.delN (h:Fl σ c s φ u cnt) (hf:φ nm=none):q0V σ nm=(4,σ):=by
 obtain ⟨l,a1,a2,a3,a4,a5⟩:=h;exact a1.deleteN (Fl.noFind a3 hf)
theorem Fl.turn (h:Fl σ c s φ u cnt) {m:Man} (hm:q0Z m.nx m.ck m.L=true) {n:Int} (hn:0≤n∧n≤999999) {L:List En} (hs:q0u L) (hB:q2V L=true) (ho: ∀e∈L,q3B e=true) (hl:L.length≤50000) {f:List UInt8}
  (h1:φ (q0B 116 n)=none) (h2:φ (q0B 98 n)=none) (h3:φ q2g=none) (hcn:cnt<397):
  (∃ σ',q2H σ m n L f=(0,some L,σ')∧Fl σ' c s (q6V (q6V (q6V φ (q0B 98 n) f) (q0B 116 n) (q2Q L)) mapN m.S) (u+f.length+(q2Q L).length+300) (cnt+3))∨
   ∃σ',q2H σ m n L f=(60,none,σ')∧Fl σ' c s φ (u+f.length+(q2Q L).length+300) (cnt+3)∧c-(u:Int)-((q2Q L).length:Int)-(f.length:Int)-300<6000:=by
 have hS:=m.S_le;have hmt:mapN≠q0B 116 n:=fun e=>by rw[q0W hn] at e;exact absurd (List.cons.inj e).1 (by decide)
 have hnt: ∀c':UInt8,c'=116∨c'=98→q2g≠q0B c' n:=fun c' hc e=>by
  rw[q0W hn] at e;rcases hc with rfl|rfl
  ·exact absurd (List.cons.inj e).1 (by decide)
  ·exact absurd (List.cons.inj e).1 (by decide)
 obtain ⟨u0,q1,q2,q3⟩:=h.exact;by_cases hr1:6000≤c-(u0:Int)-((q2Q L).length:Int)-(f.length:Int)
 ·obtain ⟨σ1,e1,p1⟩:=q2.write hn hB (f:=f) h1 h2 (by omega) hr1
  have hnew:q6V (q6V φ (q0B 98 n) f) (q0B 116 n) (q2Q L) q2g=none:=by unfold q6V;rw[if_neg (hnt 116 (.inl rfl)),if_neg (hnt 98 (.inr rfl))];exact h3
  obtain ⟨u1,z1,z2,z3⟩:=p1.exact;by_cases hr2:6000≤c-(u1:Int)-(m.S.length:Int)
  ·obtain ⟨σ2,e2,p2⟩:=z2.swap (S:=m.S) hnew (by omega) hr2
   have hw:Wl σ2 n L:=p2.wl (by unfold q6V;rw[if_neg hmt.symm,if_pos rfl]);obtain ⟨k,_,e3⟩:=z5K hw hs ho (by omega);refine .inl ⟨tellN k σ2,?_,(Fl.tells k p2).mono (by omega) (by omega)⟩;unfold q2H;rw[e1];simp only;rw[if_neg (fun h=>h rfl),Man.E_valid hm,e2];simp only;rw[if_neg (fun h=>h rfl),e3]
  ·have e2:q2E σ1 m.S 0=(60,σ1):=by
    unfold q2E q9U;rw[if_neg (fun h=>h rfl),if_neg (by rw[p1.up];decide),p1.delN hnew,if_pos rfl];unfold q3t y2C;rw[if_pos rfl];simp only;rw[z3,if_pos (by omega)]
   obtain ⟨σ2,e3,p2⟩:=p1.drop hn (x:=q2Q L) (y:=f) (by unfold q6V;rw[if_pos rfl]) (by unfold q6V;rw[if_neg (q3b n n hn hn).symm,if_pos rfl]);refine .inr ⟨σ2,?_,?_,by omega⟩
   ·unfold q2H
    rw[e1];simp only;rw[if_neg (fun h=>h rfl),Man.E_valid hm,e2];simp only;rw[if_pos (by decide),e3]
   ·have e4:q9O (q9O (q6V (q6V φ (q0B 98 n) f) (q0B 116 n) (q2Q L)) (q0B 116 n)) (q0B 98 n)=φ:=by
     funext x
     unfold q9O q6V;by_cases hx:x=q0B 98 n
     ·rw[if_pos hx,hx,h2]
     ·rw[if_neg hx]
      by_cases hx2:x=q0B 116 n
      ·rw[if_pos hx2,hx2,h1]
      ·rw[if_neg hx2,if_neg hx2,if_neg hx]
    rw[e4] at p2;exact p2.mono (by omega) (by omega)
 ·have e1:q0g σ n L f=(60,σ):=by
   unfold q0g;rw[if_neg (fun e=>by rcases e with e|e;exact e hn;rw[hB] at e;cases e),if_neg (by rw[h.up];decide),q3,if_pos (by omega)]
  refine .inr ⟨σ,?_,h.mono (by omega) (by omega),by omega⟩;unfold q2H;rw[e1];simp only;rw[if_pos (by decide)];unfold q2U;rw[h.delN h1];simp only;rw[if_pos (.inr (.inl rfl)),h.delN h2];simp only;rw[if_pos (.inr (.inl rfl))]
end
end
section
open Go.RowKit Go.Maps
theorem q4W {P:Program} {id:Nat} {Q:Exit→Act→World→Prop} {a:Act} {w:World} {l:List Oper} (n:Nat) (hm:P.follows .mixedOrders=true) (hB:Region.lexTailB .any l.toArray n=true)
  (h:wpStill P l.toArray w.drew (fun a'=>wpList P l.toArray Q (l.drop n) a' w.drew) (l.take n) a):(Code.region id l.toArray true).wp P Q a w:=
 wp_region_still_tail n hm hB h
structure ManV (w:World) (m:Man) (v:Value) (vs:List Value) (V:Nat→Prop):Prop where
 lev:OGr w 0 55 3 v vs m.L
 inV: ∀i,(v.ownBlock=some i∨ ∃q,(vs.getD q (.slice none 0 0)).ownBlock=some i)→V i
theorem ManV.same {w w':World} {m:Man} {v:Value} {vs:List Value} {V:Nat→Prop} (h:ManV w m v vs V) (k:Stay V w w'):ManV w' m v vs V:=⟨q2b h.lev fun i hi=>k i (h.inV i hi),h.inV⟩
def IxSt.put (st:IxSt) (m:Man) (n:Int) (e:TE):IxSt:=⟨m,st.rate,st.w,fun x=>if x=n then some e else st.t x,st.c+1⟩
theorem IxSt.put_full {st:IxSt} {m:Man} {n:Int} {e:TE} (h:st.full) (hm: ∀x∈m.L.flatten,x=n∨x∈st.m.L.flatten):(st.put m n e).full:=fun x hx=>by
 unfold IxSt.put;simp only;by_cases hxn:x=n
 ·exact ⟨e,by rw[if_pos hxn]⟩
 ·rcases hm x hx with h1|h1
  ·exact absurd h1 hxn
  ·obtain ⟨e2,h2⟩:=h x h1
   exact ⟨e2,by rw[if_neg hxn];exact h2⟩
def y1a (wb w:World) (g gx:Nat) (st:IxSt) (m:Man) (n:Int) (K V:Nat→Prop) (r:Int×Option (List En)×DM) (w':World):Prop:=
 match r.2.1 with
 |none=>IxK wb w' g gx st r.2.2 K∧Stay K w w'
 |some L=> ∃b may,IxK wb w' g gx (st.put m n ⟨b,L,may⟩) r.2.2 K∧Stay K w w'
section
variable {wb w w1 w2:World} {g gx gm gt:Nat} {st st1:IxSt} {F Y Y1 K K' V:Nat→Prop} {σ σ1:DM}
structure TurnW (wb w W:World) (g gx:Nat) (st:IxSt) (m:Man) (v:Value) (vs:List Value) (K V:Nat→Prop) (p:Nat) (F:Nat→Prop) (σ:DM) (gm gt:Nat) (Y:Nat→Prop):Prop where
 i:IxF wb W g F σ gx gm gt st Y (fun i=>K i∨V i∨i=p)
 man:ManV W m v vs V
 box:Blk W p 81 #[.int .i64 m.nx,.int .i64 m.ck,.int .u64 m.sd,v]
 stay:Stay K w W
theorem TurnW.grow {W W1:World} {m:Man} {v:Value} {vs:List Value} {p:Nat} (h:TurnW wb w W g gx st m v vs K V p F σ gm gt Y) (k:Ext W W1):TurnW wb w W1 g gx st m v vs K V p F σ gm gt Y:=
 ⟨h.i.grow k,h.man.same fun i hi=>h.i.kExt k i (.inr (.inl hi)),h.box.ext k,h.stay.trans fun i hi=>h.i.kExt k i (.inl hi)⟩
theorem TurnW.disk {W W1:World} {m:Man} {v:Value} {vs:List Value} {p:Nat} (h:TurnW wb w W g gx st m v vs K V p F σ gm gt Y) (k:DkS W g F σ1 W1):TurnW wb w W1 g gx st m v vs K V p (Gr F W W1) σ1 gm gt Y:=by
 obtain ⟨h1,h2⟩:=h.i.disk k;exact ⟨h1,h.man.same fun i hi=>h2 i (.inr (.inl hi)),h.box.same (h2 p (.inr (.inr rfl))),h.stay.trans fun i hi=>h2 i (.inl hi)⟩
theorem TurnW.ixi {W:World} {m:Man} {v:Value} {vs:List Value} {p:Nat} (h:TurnW wb w W g gx st m v vs K V p F σ gm gt Y): ∃v vs vm D nn,IxI W gx g gm gt st v vs vm D nn Y:=h.i.i.x.2
theorem TurnW.fin {W:World} {m:Man} {v:Value} {vs:List Value} {p:Nat} (h:TurnW wb w W g gx st m v vs K V p F σ gm gt Y):IxK wb W g gx st σ K∧Stay K w W:=⟨⟨_,_,_,_,h.i.beside fun i hi=> .inl hi⟩,h.stay⟩
theorem TurnW.cells {W:World} {m:Man} {v:Value} {vs:List Value} {p:Nat} (h:TurnW wb w W g gx st m v vs K V p F σ gm gt Y):
  W.cell? ⟨gx,0,none⟩=some (.pointer (some ⟨g,0,none⟩))∧W.cell? ⟨gx,5,none⟩=some (.float .f64 st.rate)∧
  W.cell? ⟨p,0,none⟩=some (.int .i64 m.nx)∧W.cell? ⟨p,1,none⟩=some (.int .i64 m.ck)∧W.cell? ⟨p,2,none⟩=some (.int .u64 m.sd)∧W.cell? ⟨p,3,none⟩=some v:=by
 obtain ⟨v',vs',vm,D,nn,hi⟩:=h.ixi;exact ⟨hi.c0,hi.c5,h.box.cell 0,h.box.cell 1,h.box.cell 2,h.box.cell 3⟩
theorem IxI.putT {v v2:Value} {vs vs2:List Value} {vm:Value} {D:DataW Unit} {nn:Nat} (h:IxI w gx g gm gt st v vs vm D nn Y) {m:Man} (hm:ManV w m v2 vs2 V) {n:Int} {t:Nat} {L:List En} {may:Int→Bool} {T:Nat→Prop}
  (hO:w2.ownsMap Tryz.prog 3 q5Y gt (nn+1) (D.put (.int .i64 n) (.lit (.int .i64 t))))
  (hF:OffS (fun i=>i=gt) ((((w.setCell ⟨gx,1,none⟩ (.int .i64 m.nx)).setCell ⟨gx,2,none⟩ (.int .i64 m.ck)).setCell ⟨gx,3,none⟩ (.int .u64 m.sd)).setCell ⟨gx,4,none⟩ v2).drew w2)
  (htb:Tb w t g n L may T) (hV: ∀i,V i→i<w.heap.size∧¬InX gx gm gt i) (hT: ∀i,T i→¬InX gx gm gt i):
  IxI w2 gx g gm gt (st.put m n ⟨t,L,may⟩) v2 vs2 vm (D.put (.int .i64 n) (.lit (.int .i64 t))) (nn+1) (fun i=>Y i∨V i∨T i)∧OffS (InX gx gm gt) w w2:=by
 have hoff:OffS (InX gx gm gt) w w2:=((((OffS.set (F:=InX gx gm gt) w (.inl rfl) 1 (.int .i64 m.nx)).trans (OffS.set _ (.inl rfl) 2 (.int .i64 m.ck))).trans (OffS.set _ (.inl rfl) 3 (.int .u64 m.sd))).trans (OffS.set _ (.inl rfl) 4 v2)).trans ((OffS.of_ext (Ext.refl _).drew).trans (hF.mono fun i _ hi=> .inr (.inr hi)));have hY: ∀i,i<w.heap.size→¬InX gx gm gt i→w2.heap[i]? =w.heap[i]? :=fun i hi hx=>hoff.block i hi hx
 have hgm:w2.heap[gm]? =w.heap[gm]? :=by
  rw[hF.block gm (Nat.lt_of_lt_of_le h.mem.blk.lt (by simp[World.setCell,World.drew,-World.drew_eq])) h.ne.2.2];show (((((w.setCell ⟨gx,1,none⟩ (.int .i64 m.nx)).setCell ⟨gx,2,none⟩ (.int .i64 m.ck)).setCell ⟨gx,3,none⟩ (.int .u64 m.sd)).setCell ⟨gx,4,none⟩ v2)).heap[gm]? =_;rw[Below.heap_setCell _ _ _ _ h.ne.1.symm,Below.heap_setCell _ _ _ _ h.ne.1.symm,Below.heap_setCell _ _ _ _ h.ne.1.symm,Below.heap_setCell _ _ _ _ h.ne.1.symm]
 have hblk:Blk w2 gx 142 #[.pointer (some ⟨g,0,none⟩),.int .i64 m.nx,.int .i64 m.ck,.int .u64 m.sd,v2,.float .f64 st.rate,.pointer (some ⟨gm,0,none⟩),.map (some gt)]:=by
  have h1:=(((h.blk.set 1 (.int .i64 m.nx)).set 2 (.int .i64 m.ck)).set 3 (.int .u64 m.sd)).set 4 v2;exact (Blk.drew h1).same (hF.block gx (Blk.drew h1).lt h.ne.2.1)
 have hYl: ∀i,(Y i∨V i∨T i)→i<w.heap.size∧¬InX gx gm gt i:=fun i hi=>by
  rcases hi with hi|hi|hi
  ·exact ⟨h.lt i hi,h.apart i hi⟩
  ·exact hV i hi
  ·exact ⟨htb.lt i hi,hT i hi⟩
 refine ⟨⟨hblk,?_,q2b hm.lev fun i hi=>hY i (hV i (hm.inV i hi)).1 (hV i (hm.inV i hi)).2,hO,Nat.succ_le_succ h.cnt,fun x=>?_,fun x e hx=>?_,fun i hi=>?_,fun i hi=>Nat.lt_of_lt_of_le (hYl i hi).1 hoff.size,fun i hi=>(hYl i hi).2,h.ne⟩,hoff⟩
 ·refine h.mem.same fun i hi=>?_
  rcases hi with rfl|hi
  ·exact hgm
  ·have hyi:=h.inY i (.inr (.inr hi))
   exact hY i (h.lt i hyi) (h.apart i hyi)
 ·exact z4z (e:=⟨t,L,may⟩) h.look h.map.isMap x
 ·unfold IxSt.put at hx
  simp only at hx;by_cases hxn:x=n
  ·rw[if_pos hxn] at hx
   injection hx with hx;subst hx;subst hxn;exact (htb.same hoff.size fun i hi=>hY i (htb.lt i hi) (hT i hi)).mono (fun i hi=> .inr (.inr hi)) fun i hi=>Nat.lt_of_lt_of_le (hYl i hi).1 hoff.size
  ·rw[if_neg hxn] at hx
   exact ((h.tab x e hx).same hoff.size fun i hi=>hY i (h.lt i hi) (h.apart i hi)).mono (fun i hi=> .inl hi) fun i hi=>Nat.lt_of_lt_of_le (hYl i hi).1 hoff.size
 ·rcases hi with hi|hi|hi
  ·exact .inr (.inl (hm.inV i (.inl hi)))
  ·exact .inr (.inl (hm.inV i (.inr hi)))
  ·exact .inl (h.inY i (.inr (.inr hi)))
theorem y0z (h:IxF wb w g F σ gx gm gt st Y (fun i=>K i∨V i)) {m:Man} {v:Value} {vs:List Value} (hv:ManV w m v vs V) (hKV: ∀i,V i→wb.heap.size≤i∧¬K i) {n:Int} (hn:0≤n∧n≤1000000)
  {ao:Option Addr} {k cap:Nat} {l:List En} (hx:Ens w ao k cap l) (hk:k≤1000) (hok: ∀e∈l,q3B e=true)
  (hwf: ∀x∈m.L.flatten,(Lit.int .i64 x).wf=true) (hsum:m.L.flatten.length≤1000) (hs0:0≤m.sd) (hs1:m.sd<18446744073709551616) (hc:st.c<1000000):
  Calls Tryz.prog 106 #[.pointer (some ⟨gx,0,none⟩),.agg #[.int .i64 m.nx,.int .i64 m.ck,.int .u64 m.sd,v],.int .i64 n,.slice ao k cap] w fun e w'=>
   ∃f:List UInt8,128≤f.length∧f.length≤64*(l.length/20+2)∧e= .returned (.int .i64 (q2H σ m n l f).1)∧y1a wb w g gx st m n K V (q2H σ m n l f) w':=by
 obtain ⟨av,kv,rfl,hgr0⟩:=hv.lev.grid;have hx1:=q0D w (.cells #[.int .i64 m.nx,.int .i64 m.ck,.int .u64 m.sd,.slice av m.L.length kv] 81);have hlt: ∀i,V i→i<w.heap.size:=fun i hi=>(h.k i (.inr hi)).1
 have HT1:Hid (TurnW wb w (w.alloc (.cells #[.int .i64 m.nx,.int .i64 m.ck,.int .u64 m.sd,.slice av m.L.length kv] 81)) g gx st m (.slice av m.L.length kv) vs K V w.heap.size F σ gm gt Y):=η41
  ⟨h.more hx1 (fun i hi=>by
   rcases hi with hi|hi|hi
   ·exact .inl (.inl hi)
   ·exact .inl (.inr hi)
   ·exact .inr ⟨by omega,by rw[World.size_alloc];omega⟩),hv.same (fun i hi=>hx1.block i (hlt i hi)),Blk.new _ _ _,fun i hi=>hx1.block i (h.k i (.inl hi)).1⟩
 have HEns:=η41 (fun W (k:Ext w W)=>hx.ext k);have HX1:=η41 hx1;have HWf:=η41 hwf;clear h hv hx hx1 hgr0 hlt;go_enter Tryz.func106,Tryz.ntmps106;go_wp2_with fail;obtain ⟨w1,hw1⟩: ∃w1,w.alloc (.cells #[.int .i64 m.nx,.int .i64 m.ck,.int .u64 m.sd,.slice av m.L.length kv] 81)=w1:=⟨_,rfl⟩
 obtain ⟨p,hp⟩: ∃p,w.heap.size=p:=⟨_,rfl⟩
 rw[hw1,hp] at HT1;rw[hw1] at HX1;simp only[hw1,hp];clear hw1 hp;obtain ⟨d0,d5,p0,p1,p2,p3⟩:=HT1.out.cells;refine q4W 10 (by kernel_rfl) (by kernel_rfl) ?_;simp only[List.take_succ_cons,List.take_zero,List.drop_succ_cons,List.drop_zero]
 repeat still_step
 refine wpStill_nil ?_;go_wp2_with fail;have HT1d:=η41 (HT1.out.grow (Ext.refl w1).drew);refine (z9F HT1d.out.i.i.d n st.rate (HEns.out _ HX1.out.drew) hk hok).mono ?_;rintro e w2 ⟨f,f1,f2,rfl,hd⟩;have HT2:=η41 (HT1d.out.disk hd);have HM:Hid (q2H σ m n l f=if (q0g σ n l f).1≠0 then ((q0g σ n l f).1,none,(q2U (q0g σ n l f).2 n).2)
  else if (q2E (q0g σ n l f).2 m.S m.E).1≠0 then ((q2E (q0g σ n l f).2 m.S m.E).1,none,(q2U (q2E (q0g σ n l f).2 m.S m.E).2 n).2)
  else match q5C (q2E (q0g σ n l f).2 m.S m.E).2 n with
  |(none,e,τ)=>(e,none,τ)
  |(some L,_,τ)=>(0,some L,τ)):=η41 rfl
 obtain ⟨r1,hr1⟩: ∃r1,q0g σ n l f=r1:=⟨_,rfl⟩
 rw[hr1] at HM HT2;rw[hr1];obtain ⟨c1,σ1⟩:=r1;simp only at HM HT2;simp only;clear hd hr1 d0 d5 p0 p1 p2 p3 HT1d HEns;by_cases h1:c1=0
 case neg=>
  have HE:Hid (q2H σ m n l f=(c1,none,(q2U σ1 n).2)):=η41 (by rw[HM.out,if_pos h1]);have g1:(c1==0)=false:=by simpa using h1
  have g2:(c1 !=0)=true:=by simpa using h1
  clear HM h1;obtain ⟨d0,d5,p0,p1,p2,p3⟩:=HT2.out.cells;have HD:=η41 (z3d HT2.out.i.i.d n);go_wp2_with fail;refine HD.out.mono ?_;rintro e w9 ⟨rfl,hd9⟩;have HT9:=η41 (HT2.out.disk hd9);clear hd9 HD;go_wp2_with fail;go_ret;refine ⟨f,f1,f2,by rw[HE.out];rfl,?_⟩;rw[HE.out];exact HT9.out.fin
 case pos=>
 subst h1;obtain ⟨d0,d5,p0,p1,p2,p3⟩:=HT2.out.cells;have HM2:=HM.out;rw[if_neg (fun h=>h rfl)] at HM2;have HM3:=η41 HM2;have HTd:=η41 (HT2.out.grow (Ext.refl w2).drew);clear HM HM2;go_wp2_with fail;refine q4W 5 (by kernel_rfl) (by kernel_rfl) ?_;simp only[List.take_succ_cons,List.take_zero,List.drop_succ_cons,List.drop_zero]
 repeat still_step
 refine wpStill_nil ?_;go_wp2_with fail;obtain ⟨_,_,e0,hgrid⟩:=HTd.out.man.lev.grid
 cases e0;refine (y2n HTd.out.i.i.d hgrid (by omega) HWf.out hs0 hs1 (S:=m.S) (E:=m.E) rfl ?_).mono ?_
 ·have:=m.S_le;omega
 rintro e w3 ⟨rfl,hd3⟩;have HT3:=η41 (HTd.out.disk hd3);obtain ⟨r2,hr2⟩: ∃r2,q2E σ1 m.S m.E=r2:=⟨_,rfl⟩
 rw[hr2] at HM3 HT3;rw[hr2];obtain ⟨c2,σ2⟩:=r2;simp only at HM3 HT3;simp only;have HEz:Hid (c2=0→m.E=0):=η41 fun h=>y1Z (h▸hr2)
 clear hr2 hd3 d0 d5 p0 p1 p2 p3 HTd hgrid;by_cases h2:c2=0
 case neg=>
  have HE:Hid (q2H σ m n l f=(c2,none,(q2U σ2 n).2)):=η41 (by rw[HM3.out,if_pos h2]);have g2:(c2 !=0)=true:=by simpa using h2
  clear HM3 h2;obtain ⟨d0,d5,p0,p1,p2,p3⟩:=HT3.out.cells;have HD:=η41 (z3d HT3.out.i.i.d n);go_wp2_with fail;refine HD.out.mono ?_;rintro e w9 ⟨rfl,hd9⟩;have HT9:=η41 (HT3.out.disk hd9);clear hd9 HD;go_wp2_with fail;go_ret;refine ⟨f,f1,f2,by rw[HE.out];rfl,?_⟩;rw[HE.out];exact HT9.out.fin
 case pos=>
 subst h2;have HM4:=HM3.out;rw[if_neg (fun h=>h rfl)] at HM4;obtain ⟨d0,d5,p0,p1,p2,p3⟩:=HT3.out.cells;have HO:=η41 (z6j HT3.out.i.i.d n);obtain ⟨r3,hr3⟩: ∃r3,q5C σ2 n=r3:=⟨_,rfl⟩
 rw[hr3] at HM4 HO;obtain ⟨o,c3,σ3⟩:=r3;have HE2:=η41 HM4;clear HM3 HM4
 cases o with
 | none=>
  have HE:Hid (q2H σ m n l f=(c3,none,σ3)):=HE2;have g2:(c3 !=0)=true:=by simpa using z0o hr3
  clear hr3 HE2;go_wp2_with fail;refine HO.out.mono ?_;rintro e w4 ⟨rfl,hd4⟩;have HT4:=η41 (HT3.out.disk hd4);clear hd4;go_wp2_with fail;go_ret;refine ⟨f,f1,f2,by rw[HE.out];rfl,?_⟩;rw[HE.out];exact HT4.out.fin
 | some L=>
  have HE:Hid (q2H σ m n l f=(0,some L,σ3)):=HE2;obtain rfl:=q9s hr3;clear hr3 HE2;go_wp2_with fail;refine HO.out.mono ?_;rintro e w5 ⟨t,may,T,w4,rfl,hd4,hx4,htb,hT⟩;have HT4:=η41 ((HT3.out.disk hd4).grow hx4);have HTb:=η41 htb;have HTl:Hid (∀i,T i→w4.heap.size≤i):=η41 hT;have HKl:Hid (∀i,(K i∨V i∨i=p)→i<w4.heap.size):=η41 fun i hi=>((HT3.out.disk hd4).i.k i hi).1
  have HFl:=η41 (HT3.out.disk hd4).i.i.d.Flt;have HXl:=η41 (HT3.out.disk hd4).i.i.x.xlt;have HWb:=η41 (HT3.out.disk hd4).i.ext.size;clear hd4 hx4 htb hT HO d0 d5 p0 p1 p2 p3;go_wp2_with fail;obtain ⟨v',vs',vm,D,nn,hi⟩:=HT4.out.ixi;obtain ⟨d0,d5,p0,p1,p2,p3⟩:=HT4.out.cells;have hnw:(Lit.int .i64 n).wf=true:=WalkArith.wf_i64 (by omega);have x1:=hi.c1;have x2:=hi.c2;have x3:=hi.c3;have x4:=hi.c4;have x7:=hi.c7;have z1:w5.frozen? ⟨gx,1,none⟩=false:=hi.blk.free 1;have z2:w5.frozen? ⟨gx,2,none⟩=false:=hi.blk.free 2;have z3:w5.frozen? ⟨gx,3,none⟩=false:=hi.blk.free 3;have z4:w5.frozen? ⟨gx,4,none⟩=false:=hi.blk.free 4;obtain ⟨a',k',hv'⟩:=hi.lev.own.slice;subst hv';have hcc:=HT4.out.i.i.x.1.c;have hcn:=hi.cnt;obtain ⟨v0,sn,W1,W2,hE,hS,hO,hF⟩:=z7Q (w:=((((w5.setCell ⟨gx,1,none⟩ (.int .i64 m.nx)).setCell ⟨gx,2,none⟩ (.int .i64 m.ck)).setCell ⟨gx,3,none⟩ (.int .u64 m.sd)).setCell ⟨gx,4,none⟩ (.slice av m.L.length kv)).drew) (q1w hi.map (by
   show (((((w5.setCell ⟨gx,1,none⟩ (.int .i64 m.nx)).setCell ⟨gx,2,none⟩ (.int .i64 m.ck)).setCell ⟨gx,3,none⟩ (.int .u64 m.sd)).setCell ⟨gx,4,none⟩ (.slice av m.L.length kv))).heap[gt]? =_;rw[Below.heap_setCell _ _ _ _ hi.ne.2.1.symm,Below.heap_setCell _ _ _ _ hi.ne.2.1.symm,Below.heap_setCell _ _ _ _ hi.ne.2.1.symm,Below.heap_setCell _ _ _ _ hi.ne.2.1.symm])) (by unfold maxLen;omega) hnw t
  have HI:=η41 hi;have HO':=η41 hO;have HF':=η41 hF;clear hi hO hF
  go_region
  go_wp2_with fail;go_ret;refine ⟨f,f1,f2,by rw[HE.out];rfl,?_⟩;rw[HE.out];obtain ⟨hix,hoff⟩:=HI.out.putT HT4.out.man HO'.out HF'.out HTb.out (fun i hi=>⟨(HT4.out.i.k i (.inr (.inl hi))).1,(HT4.out.i.k i (.inr (.inl hi))).2.2.1⟩) (fun i hi hx=>by have:=HTl.out i hi;have:=HXl.out i hx;omega);have hok1:=HT4.out.i.i.x.1;have hix2:IxY W2 gx g gm gt (st.put m n ⟨t,L,may⟩) (fun i=>Y i∨V i∨T i):=⟨⟨⟨Man.E_ok (HEz.out (by trivial)),hs0,hs1⟩,hok1.mem,Nat.succ_le_of_lt hc⟩,_,_,_,_,_,hix⟩
  ·obtain ⟨q1,q2⟩:=HT4.out.i.turnV hix2 hoff (K:=K) (fun i hi=>by
    rcases hi with hi|hi|hi
    ·exact ⟨HT4.out.i.bY i hi,fun hf=>(HT4.out.i.i.ap i hf).2 hi⟩
    ·exact ⟨(hKV i hi).1,(HT4.out.i.k i (.inr (.inl hi))).2.1⟩
    ·exact ⟨by have:=HTl.out i hi;have:=HWb.out;omega,fun hf=>by have:=HTl.out i hi;have:=HFl.out i hf;omega⟩) (fun i hi=>⟨.inl hi,fun hy=>by
    rcases hy with hy|hy|hy
    ·exact (HT4.out.i.k i (.inl hi)).2.2.2 hy
    ·exact (hKV i hy).2 hi
    ·have:=HTl.out i hy;have:=HKl.out i (.inl hi);omega⟩)
   exact ⟨t,may,⟨_,_,_,_,q1⟩,HT4.out.stay.trans q2⟩
end
end
section
open Go.RowKit Go.Maps
def Man.add (m:Man) (L2:List (List Int)) (e:Int):Man:=⟨m.nx+1,e,m.sd,L2⟩
def z2l (wb w:World) (g gx:Nat) (st:IxSt) (σ:DM) (en:Int) (K:Nat→Prop) (r:Ending) (w':World):Prop:=
 (st.w=[]∧r= .returned (.int .i64 0)∧IxK wb w' g gx st σ K∧Stay K w w')∨
 (st.w≠[]∧(addS st.m.L st.m.nx).2≠0∧r= .returned (.int .i64 (addS st.m.L st.m.nx).2)∧IxK wb w' g gx st σ K∧Stay K w w')∨
 (st.w≠[]∧(addS st.m.L st.m.nx).2=0∧ ∃f:List UInt8,128≤f.length∧f.length≤64*(st.w.length/20+2)∧r= .returned (.int .i64 (q2H σ (st.m.add (addS st.m.L st.m.nx).1 en) st.m.nx st.w f).1)∧
  match (q2H σ (st.m.add (addS st.m.L st.m.nx).1 en) st.m.nx st.w f).2.1 with
  |none=>IxK wb w' g gx st (q2H σ (st.m.add (addS st.m.L st.m.nx).1 en) st.m.nx st.w f).2.2 K∧Stay K w w'
  |some L=> ∃b may,IxK wb w' g gx {st.put (st.m.add (addS st.m.L st.m.nx).1 en) st.m.nx ⟨b,L,may⟩ with w:=[]} (q2H σ (st.m.add (addS st.m.L st.m.nx).1 en) st.m.nx st.w f).2.2 K∧Stay K w w')
theorem z5D {L:List (List Int)} {x:Int} (h:(addS L x).2=0):¬x∈L.flatten∧L.length≤5∧(addS L x).1=q5a L x∧(∀y,y∈(addS L x).1.flatten↔y∈L.flatten∨y=x)∧(addS L x).1.flatten.length≤41:=by
 by_cases h1:q0a L=false∨x<0∨x∈L.flatten
 ·rw[z4R L x h1] at h;cases h
 by_cases h2:40≤L.flatten.length
 ·rw[z2V L x h1 h2] at h;cases h
 have hv:L.length≤5:=by
  have hv:q0a L=true:=by
   cases hv:q0a L with
   |true=>rfl
   |false=>exact absurd (.inl hv) h1
  unfold q0a at hv;simp only[decide_eq_true_eq] at hv;exact hv.1
 rw[z7p L x h1 h2];have hp:=z2A L x hv;refine ⟨fun hx=>h1 (.inr (.inr hx)),hv,rfl,fun y=>?_,?_⟩
 ·rw[hp.mem_iff,List.mem_append,List.mem_singleton]
 ·have:=hp.length_eq
  rw[List.length_append,List.length_singleton] at this;show (q5a L x).flatten.length≤41;omega
section
variable {wb w w1 w2:World} {g gx gm gt:Nat} {st st1:IxSt} {F Y Y1 K K' V:Nat→Prop} {σ σ1:DM}
theorem IxK.clear (h:IxK wb w g gx st σ K) {f:FuncId} {P:Program} {args:Nat→Array Value} (hc: ∀m v L,MemI w m v L→Calls P f (args m) w fun r w'=>r= .returned (.tuple #[])∧MemI w' m (.slice none 0 0) []∧OffS (fun i=>i=m) w w'):
  ∃m,w.cell? ⟨gx,6,none⟩=some (.pointer (some ⟨m,0,none⟩))∧Calls P f (args m) w fun r w'=>r= .returned (.tuple #[])∧IxK wb w' g gx {st with w:=[]} σ K∧Stay K w w':=by
 obtain ⟨F,gm,gt,Y,h1⟩:=h;obtain ⟨hok,v,vs,vm,D,nn,hi⟩:=h1.i.x;refine ⟨gm,hi.c6,(hc _ _ _ hi.mem).mono ?_⟩;rintro r w' ⟨rfl,hm,hoff⟩;have hx:IxY w' gx g gm gt {st with w:=[]} (fun i=>Y i∨(Value.slice none 0 0).ownBlock=some i):=⟨⟨hok.man,okM.nil,hok.c⟩,v,vs,_,D,nn,hi.memTurn hm hoff (.inr fun i hi=>by cases hi)⟩
 obtain ⟨q1,q2⟩:=h1.turn hx (hoff.mono fun i _ hi=> .inr (.inl hi)) (fun i hi=>by
  rcases hi with hi|hi
  ·exact .inl hi
  ·cases hi)
 exact ⟨rfl,⟨_,_,_,_,q1⟩,q2⟩
theorem z8b (h0:IxY w gx g gm gt st Y) {gl:Nat} {en:Int} {P:DM→World→Prop}
  (hfl:Calls Tryz.prog 62 #[.pointer (some ⟨gl,0,none⟩)] w fun e w1=>e= .returned (.int .i64 0)∧ ∃σ,IxK wb w1 g gx st σ K∧P σ w1)
  (hend: ∀σ w1 W,P σ w1→Ext w1 W→Calls Tryz.prog 105 #[.pointer (some ⟨gl,0,none⟩)] W fun e w'=>e= .returned (.int .i64 en)∧W=w')
  (hw:st.w.length≤1000) (hc:st.c<1000000):
  Calls Tryz.prog 56 #[.pointer (some ⟨gx,0,none⟩),.pointer (some ⟨gl,0,none⟩)] w fun e w'=> ∃σ w1,P σ w1∧z2l wb w1 g gx st σ en K e w':=by
 have HN:=η41 (q6y h0);have HFl:=η41 hfl;have HEn:=η41 hend;clear h0 hfl hend;go_enter Tryz.func56,Tryz.ntmps56;go_wp2_with fail;refine HN.out.mono ?_;rintro e w1 ⟨rfl,rfl⟩;go_wp2_with fail;refine HFl.out.mono ?_;rintro e w1 ⟨rfl,σ,hk,hp⟩;have HP:=η41 hp;have HK:=η41 hk;obtain ⟨F1,gm1,gt1,Y1,h1⟩:=hk;have H1:=η41 h1;have hix:=h1.i.x;obtain ⟨hok,v,vs,vm,D,nn,hi⟩:=hix;have HL:=η41 (y3g hi.mem);have c6:=hi.c6;have HI:=η41 hi;have HOk:=η41 hok;clear hp h1 hi hok HN HFl;by_cases h2:st.w=[]
 ·have g1:((st.w.length:Int)==0)=true:=by rw[h2];rfl
  have HE:Hid (z2l wb w1 g gx st σ en K (.returned (.int .i64 0)) w1):=η41 (.inl ⟨h2,rfl,HK.out,Stay.refl _ _⟩);clear h2;go_wp2_with fail;refine HL.out.mono ?_;rintro e w2 ⟨rfl,rfl⟩;go_wp2_with fail;go_ret;exact ⟨_,_,HP.out,HE.out⟩
 ·have g1:((st.w.length:Int)==0)=false:=by
   have:0<st.w.length:=Nat.pos_of_ne_zero fun h=>h2 (List.eq_nil_of_length_eq_zero h)
   rw[beq_eq_false_iff_ne];omega
  obtain ⟨av,kv,rfl,hgr⟩:=HI.out.grid;have hbd:=Man.bounds HOk.out.man;have c1:=HI.out.c1;have c2:=HI.out.c2;have c3:=HI.out.c3;have c4:=HI.out.c4;have HCp:=η41 (q7q st.m.nx st.m.ck st.m.sd av st.m.L.length kv st.m.L w1 hgr (fun i=>by have:=hbd.2.2.1 i;omega) (by omega));have HBd:=η41 hbd;have HNe:=η41 h2;clear hgr hbd h2;go_wp2_with fail;refine HL.out.mono ?_;rintro e w2 ⟨rfl,rfl⟩;go_wp2_with fail;refine HCp.out.mono ?_;rintro e w2 ⟨v2,vs2,rfl,hog,hb⟩;have HX2:=η41 hb;have HOg:=η41 hog;obtain ⟨a2,k2,rfl,hgr2⟩:=hog.grid;have HAd:=η41 (fun W (k:Ext w2 W)=>y4C a2 st.m.L.length k2 st.m.L st.m.nx W (hgr2.ext k) (by have:=HBd.out.2.1;omega) (by have:=HBd.out.1;omega) (fun x hx=>(HBd.out.2.2.2.1 x hx).1));clear hb hog hgr2 HCp HL;go_wp2_with fail;have HB2:Hid (Blk (w2.alloc (.cells #[.int .i64 st.m.nx,.int .i64 st.m.ck,.int .u64 st.m.sd,.slice a2 st.m.L.length k2] 81)) w2.heap.size 81 #[.int .i64 st.m.nx,.int .i64 st.m.ck,.int .u64 st.m.sd,.slice a2 st.m.L.length k2]):=η41 (Blk.new _ _ _)
  have HXB:=η41 (q0D w2 (.cells #[.int .i64 st.m.nx,.int .i64 st.m.ck,.int .u64 st.m.sd,.slice a2 st.m.L.length k2] 81));have HSB:Hid ((w2.alloc (.cells #[.int .i64 st.m.nx,.int .i64 st.m.ck,.int .u64 st.m.sd,.slice a2 st.m.L.length k2] 81)).heap.size=w2.heap.size+1):=η41 (World.size_alloc _ _);obtain ⟨wB,hwB⟩: ∃wB,w2.alloc (.cells #[.int .i64 st.m.nx,.int .i64 st.m.ck,.int .u64 st.m.sd,.slice a2 st.m.L.length k2] 81)=wB:=⟨_,rfl⟩
  obtain ⟨q6,hq6⟩: ∃q6,w2.heap.size=q6:=⟨_,rfl⟩
  have HQ6:=η41 hq6;rw[hwB] at HB2 HXB HSB;rw[hq6] at HB2 HSB;simp only[hwB,hq6];clear hwB hq6;refine (HAd.out _ HXB.out).mono ?_;rintro e w3 ⟨v3,vs3,rfl,hog3,hb3⟩;obtain ⟨a3,k3,rfl,hgr3⟩:=hog3.grid;have HX3:=η41 ((HX2.out.trans HXB.out).trans hb3);have HB3:=η41 (HB2.out.ext hb3);have HOg3:=η41 hog3;obtain ⟨r,hr⟩: ∃r,addS st.m.L st.m.nx=r:=⟨_,rfl⟩
  have HR:=η41 hr;rw[hr] at HOg3;rw[hr];obtain ⟨L2,er⟩:=r;simp only at HOg3;simp only;clear hog3 hgr3 hb3 hr HAd c1 c2 c3 c4;by_cases her:er=0
  case neg=>
   have g2:(er !=0)=true:=by simpa using her
   have HE:Hid (z2l wb w1 g gx st σ en K (.returned (.int .i64 er)) w3):=η41 (.inr (.inl ⟨HNe.out,by rw[HR.out];exact her,by rw[HR.out],HK.out.grow HX3.out,HK.out.kExt HX3.out⟩));clear her;go_wp2_with fail;go_ret;exact ⟨_,_,HP.out,HE.out⟩
  case pos=>
  subst her;have HEd:=η41 (HEn.out _ w1 w3 HP.out HX3.out);have b0:w3.cell? ⟨q6,0,none⟩=some (.int .i64 st.m.nx):=HB3.out.cell 0;have b1:w3.cell? ⟨q6,1,none⟩=some (.int .i64 st.m.ck):=HB3.out.cell 1;have b2:w3.cell? ⟨q6,2,none⟩=some (.int .u64 st.m.sd):=HB3.out.cell 2;have b3:w3.cell? ⟨q6,3,none⟩=some (.slice a2 st.m.L.length k2):=HB3.out.cell 3;have f0:w3.frozen? ⟨q6,0,none⟩=false:=HB3.out.free 0;have f1:w3.frozen? ⟨q6,1,none⟩=false:=HB3.out.free 1;have f3:w3.frozen? ⟨q6,3,none⟩=false:=HB3.out.free 3;have q1:IntKind.i64.wrap (st.m.nx+1)=st.m.nx+1:=by have:=HBd.out.2.2.2.2;rw[IntKind.wrap_i64];omega
  go_wp2_with fail;refine HEd.out.mono ?_;rintro e w4 ⟨rfl,rfl⟩;go_wp2_with fail;have hq6w:=HB3.out.lt;have hsz1:=HX2.out.size;have hq6:=HQ6.out;have hszB:=HSB.out;obtain ⟨V,hV⟩: ∃V:Nat→Prop,V=fun i=>((Value.slice a3 L2.length k3).ownBlock=some i∨ ∃q,(vs3.getD q (.slice none 0 0)).ownBlock=some i):=⟨_,rfl⟩
  have hVl: ∀i,V i→wB.heap.size≤i∧i<w3.heap.size:=fun i hi=>q4s HOg3.out i (by rw[hV] at hi;exact hi)
  have hoff4:OffS (fun i=>i=q6) w3 (((w3.setCell ⟨q6,3,none⟩ (.slice a3 L2.length k3)).setCell ⟨q6,0,none⟩ (.int .i64 (st.m.nx+1))).setCell ⟨q6,1,none⟩ (.int .i64 en)):=
   ((OffS.set (F:=fun i=>i=q6) w3 rfl 3 (.slice a3 L2.length k3)).trans (OffS.set (F:=fun i=>i=q6) _ rfl 0 (.int .i64 (st.m.nx+1)))).trans (OffS.set (F:=fun i=>i=q6) _ rfl 1 (.int .i64 en))
  have hbx4:Blk (((w3.setCell ⟨q6,3,none⟩ (.slice a3 L2.length k3)).setCell ⟨q6,0,none⟩ (.int .i64 (st.m.nx+1))).setCell ⟨q6,1,none⟩ (.int .i64 en)) q6 81 #[.int .i64 (st.m.nx+1),.int .i64 en,.int .u64 st.m.sd,.slice a3 L2.length k3]:=
   ((HB3.out.set 3 (.slice a3 L2.length k3)).set 0 (.int .i64 (st.m.nx+1))).set 1 (.int .i64 en)
  obtain ⟨w4,hw4⟩: ∃w4,((w3.setCell ⟨q6,3,none⟩ (.slice a3 L2.length k3)).setCell ⟨q6,0,none⟩ (.int .i64 (st.m.nx+1))).setCell ⟨q6,1,none⟩ (.int .i64 en)=w4:=⟨_,rfl⟩
  rw[hw4] at hoff4 hbx4;simp only[hw4];have hF3:IxF wb w3 g F1 σ gx gm1 gt1 st Y1 (fun i=>(K i∨i=q6)∨V i):=H1.out.more HX3.out fun i hi=>by
   rcases hi with (hi|hi)|hi
   ·exact .inl hi
   ·exact .inr ⟨by omega,by rw[hi];exact hq6w⟩
   ·have:=hVl i hi;exact .inr ⟨by omega,this.2⟩
  have hF4:IxF wb w4 g F1 σ gx gm1 gt1 st Y1 (fun i=>(K i∨i=q6)∨V i):=hF3.side hoff4.size (hoff4.ext hF3.ext fun i hi=>by rw[hi];have:=H1.out.ext.size;omega) fun i hi hn=>hoff4.block i hi fun e=>hn (.inl (.inr e))
  have hman:ManV w4 (st.m.add L2 en) (.slice a3 L2.length k3) vs3 V:=⟨q2b (q6a HOg3.out (Nat.zero_le _)) fun i hi=>hoff4.block i (q4s HOg3.out i hi).2 (fun e=>by have:=(q4s HOg3.out i hi).1;omega),fun i hi=>by rw[hV];exact hi⟩
  have HKV:Hid (∀i,V i→wb.heap.size≤i∧¬(K i∨i=q6)):=η41 fun i hi=>by
   have h1:=hVl i hi;have h2:=H1.out.ext.size;refine ⟨by omega,?_⟩;rintro (h3|h3)
   ·have:=(H1.out.k i h3).1;omega
   ·omega
  have HSt4:Hid (Stay K w1 w4):=η41 fun i hi=>by
   have h1:=(H1.out.k i hi).1;rw[hoff4.block i (Nat.lt_of_lt_of_le h1 HX3.out.size) (by omega),HX3.out.block i h1]
  obtain ⟨_,v4,vs4,vm4,D4,nn4,hi4⟩:=hF4.i.x;have HC:Hid (∀W,Ext w4 W→(W.cell? ⟨q6,0,none⟩=some (.int .i64 (st.m.nx+1))∧W.cell? ⟨q6,1,none⟩=some (.int .i64 en)∧W.cell? ⟨q6,2,none⟩=some (.int .u64 st.m.sd)∧W.cell? ⟨q6,3,none⟩=some (.slice a3 L2.length k3))∧W.cell? ⟨gx,6,none⟩=some (.pointer (some ⟨gm1,0,none⟩))):=η41 fun W hW=>
   ⟨⟨(hbx4.ext hW).cell 0,(hbx4.ext hW).cell 1,(hbx4.ext hW).cell 2,(hbx4.ext hW).cell 3⟩,(hi4.ext hW).c6⟩
  have HDu:=η41 (fun W (k:Ext w4 W)=>y1o (hi4.mem.ext k) (by omega));have HF4:=η41 hF4;have HMan:=η41 hman;have hbd:=HBd.out;have hRm:=z5D (L:=st.m.L) (x:=st.m.nx) (by rw[HR.out]);rw[HR.out] at hRm;have HTu:Hid (∀W (k:Ext w4 W) (ae:Option Addr) (ce:Nat),Ens W ae st.w.length ce st.w→Calls Tryz.prog 106 #[.pointer (some ⟨gx,0,none⟩),.agg #[.int .i64 (st.m.nx+1),.int .i64 en,.int .u64 st.m.sd,.slice a3 L2.length k3],.int .i64 st.m.nx,.slice ae st.w.length ce] W fun e w'=>
   ∃f:List UInt8,128≤f.length∧f.length≤64*(st.w.length/20+2)∧e= .returned (.int .i64 (q2H σ (st.m.add L2 en) st.m.nx st.w f).1)∧y1a wb W g gx st (st.m.add L2 en) st.m.nx (fun i=>K i∨i=q6) V (q2H σ (st.m.add L2 en) st.m.nx st.w f) w'):=η41 fun W k ae ce he=>
   y0z (m:=st.m.add L2 en) (hF4.grow k) (hman.same fun i hi=>hF4.kExt k i (.inr hi)) HKV.out ⟨hbd.2.2.2.2.1,hbd.2.2.2.2.2.1⟩ he hw HOk.out.mem.ok (fun x hx=>by
    rcases (hRm.2.2.2.1 x).1 hx with h|h
    ·exact (hbd.2.2.2.1 x h).1
    ·rw[h];exact WalkArith.wf_i64 (by omega)) (by have:=hRm.2.2.2.2;show L2.flatten.length≤1000;simp only at this;omega) HOk.out.man.2.1 HOk.out.man.2.2 hc
  have HX0:=η41 (Ext.drew (Ext.refl w4));clear hoff4 hbx4 hF3 hF4 hman hi4 hbd hRm b0 b1 b2 b3 f0 f1 f3 hVl hw4 hV;obtain ⟨⟨y0,y1,y2,y3⟩,y6⟩:=HC.out _ HX0.out
  go_region_law (go_simp;first|(go_at_call 107;refine (HDu.out _ HX0.out).mono ?_;rintro e w5 ⟨v5,rfl,hr5,hb5⟩;obtain ⟨ae,ce,rfl,hens5⟩:=Ens.of_own (Own.of_row hr5);have HX5:=η41 (HX0.out.trans hb5);have HE5:=η41 hens5;obtain ⟨⟨r0,r1,r2,r3⟩,r6⟩:=HC.out _ HX5.out;clear hr5 hb5 hens5)|(go_at_call 106;refine (HTu.out _ HX5.out _ _ HE5.out).mono ?_;rintro e w6 ⟨f,f1,f2,rfl,hT⟩;have HTR:=η41 hT;clear hT))
  all_goals
   have HS5:Hid (Stay K w1 w5):=η41 (HSt4.out.trans fun i hi=>HF4.out.kExt HX5.out i (.inl (.inl hi)));clear HTu HDu HC HE5 y0 y1 y2 y3 y6 r0 r1 r2 r3 r6;obtain ⟨r,hr⟩: ∃r,q2H σ (st.m.add L2 en) st.m.nx st.w f=r:=⟨_,rfl⟩
   have HRr:=η41 hr;rw[hr] at HTR;simp only[hr];obtain ⟨c,o,τ⟩:=r;have HAd:Hid ((addS st.m.L st.m.nx).1=L2∧(addS st.m.L st.m.nx).2=0):=η41 (by rw[HR.out];exact ⟨rfl,rfl⟩)
   cases o with
   | none=>
    have g2:(c !=0)=true:=by simpa using q9w hr
    have HE:Hid (z2l wb w1 g gx st σ en K (.returned (.int .i64 c)) w6):=η41 (.inr (.inr ⟨HNe.out,HAd.out.2,f,f1,f2,by rw[HAd.out.1,HRr.out],by
     rw[HAd.out.1,HRr.out];have h:=HTR.out;exact ⟨h.1.beside fun i hi=> .inl hi,HS5.out.trans fun i hi=>h.2 i (.inl hi)⟩⟩))
    clear hr;go_wp2_with fail;go_ret;exact ⟨_,_,HP.out,HE.out⟩
   | some L=>
    obtain rfl:=z0A hr;obtain ⟨b,may,hk,hs⟩:=HTR.out;obtain ⟨m6,c6,hcl⟩:=(hk.beside (K':=K) fun i hi=> .inl hi).clear (f:=108) (P:=Tryz.prog) (args:=fun m=>#[.pointer (some ⟨m,0,none⟩)]) (fun m v L h=>z9t h);have HCl:=η41 hcl;have HS6:Hid (Stay K w1 w6):=η41 (HS5.out.trans fun i hi=>hs i (.inl hi));have HE:Hid (∀W,IxK wb W g gx {st.put (st.m.add L2 en) st.m.nx ⟨b,L,may⟩ with w:=[]} τ K→Stay K w6 W→z2l wb w1 g gx st σ en K (.returned (.int .i64 0)) W):=η41 fun W h1 h2=> .inr (.inr ⟨HNe.out,HAd.out.2,f,f1,f2,by rw[HAd.out.1,HRr.out],by
     rw[HAd.out.1,HRr.out];exact ⟨b,may,h1,HS6.out.trans h2⟩⟩)
    clear hr hk hs hcl;go_wp2_with fail;refine HCl.out.mono ?_;rintro e w7 ⟨rfl,h7,h8⟩;have HE2:=η41 (HE.out _ h7 h8);clear h7 h8;go_wp2_with fail;go_ret;exact ⟨_,_,HP.out,HE2.out⟩
end
end
section
open Go.RowKit Go.Maps
def q6v :DM→List Int→List (List En)→List (List En)×Int×DM
 |σ,[],acc=>(acc,0,σ)
 |σ,n::ns,acc=>if (z6F σ n).2.1≠0 then (acc,(z6F σ n).2.1,(z6F σ n).2.2) else q6v (z6F σ n).2.2 ns (acc++[(z6F σ n).1])
def q3d :DM→List Int→Int×DM
 |σ,[]=>(0,σ)
 |σ,n::ns=>if (q2U σ n).1≠0 then q2U σ n else q3d (q2U σ n).2 ns
def IxSt.del (st:IxSt) (ns:List Int):IxSt:=⟨st.m,st.rate,st.w,fun x=>if x∈ns then none else st.t x,st.c⟩
theorem IxSt.del_nil (st:IxSt):st.del []=st:=by unfold IxSt.del;simp
theorem IxSt.del_snoc (st:IxSt) (ns:List Int) (n:Int):(st.del ns).del [n]=st.del (ns++[n]):=by
 unfold IxSt.del;simp only
 congr 1
 funext x
 by_cases h1:x=n
 ·rw[if_pos (by simpa using h1),if_pos (by simp[h1])]
 ·rw[if_neg (by simpa using h1)]
  by_cases h2:x∈ns
  ·rw[if_pos h2,if_pos (by simp[h2])]
  ·rw[if_neg h2,if_neg (by simp[h1,h2])]
theorem q5i {L:List (List Int)} {lv:Int} (h:(q0y L lv).2=0):q0a L=true∧0≤lv∧lv<5∧L.getD lv.toNat []≠[]∧(q0y L lv).1=L.getD lv.toNat []:=by
 unfold q0y at h⊢;by_cases h1:q0a L=false∨lv<0∨5≤lv
 ·rw[if_pos h1] at h;cases h
 ·rw [if_neg h1] at h⊢
  by_cases h2:L.getD lv.toNat []=[]
  ·rw[if_pos h2] at h;cases h
  ·rw[if_neg h2]
   refine ⟨?_,by omega,by omega,h2,rfl⟩
   cases hv:q0a L with
   |true=>rfl
   |false=>exact absurd (.inl hv) h1
theorem q5h {L L2:List (List Int)} {lv x:Int} (h:q0T L lv x=(L2,0)):(q0y L lv).2=0∧¬(x<0∨x∈L.flatten)∧L2=z2x L lv.toNat x:=by
 unfold q0T at h;by_cases h1:(q0y L lv).2=0
 ·rw[if_neg (fun e=>e h1)] at h
  by_cases h2:x<0∨x∈L.flatten
  ·rw[if_pos h2] at h;injection h with _ h;cases h
  ·rw[if_neg h2] at h;injection h with h _;exact ⟨h1,h2,h.symm⟩
 ·rw[if_pos h1] at h;injection h with _ h;exact absurd h h1
theorem q7W {L L2:List (List Int)} {lv x:Int} (h:q0T L lv x=(L2,0)):(L2.flatten++(q0y L lv).1).Perm (L.flatten++[x])∧(∀y∈L2.flatten,y∈L.flatten∨y=x)∧L2.flatten.length≤41:=by
 obtain ⟨h1,h2,rfl⟩:=q5h h;obtain ⟨p1,p2,p3,p4,p5⟩:=q5i h1;have hv:=q2P p1;have hp:=z2u L lv.toNat x hv.1 (by omega);rw[←p5] at hp;refine ⟨hp,fun y hy=>?_,?_⟩
 ·have:=hp.mem_iff.1 (List.mem_append.2 (.inl hy))
  rcases List.mem_append.1 this with h4|h4
  ·exact .inl h4
  ·exact .inr (List.mem_singleton.1 h4)
 ·have:=hp.length_eq
  rw[List.length_append,List.length_append,List.length_singleton] at this;have:=hv.2.1;omega
def q6c (wb w:World) (g gx:Nat) (st:IxSt) (σ:DM) (lv:Int) (K:Nat→Prop) (e:Ending) (w':World):Prop:=
 ((q0y st.m.L lv).2≠0∧e= .returned (.int .i64 (q0y st.m.L lv).2)∧IxK wb w' g gx st σ K∧Stay K w w')∨
 ((q0y st.m.L lv).2=0∧ ∃A,q6v σ (q0y st.m.L lv).1 []=A∧
  ((A.2.1≠0∧e= .returned (.int .i64 A.2.1)∧IxK wb w' g gx st A.2.2 K∧Stay K w w')∨
   (A.2.1=0∧(q0T st.m.L lv st.m.nx).2≠0∧e= .returned (.int .i64 (q0T st.m.L lv st.m.nx).2)∧IxK wb w' g gx st A.2.2 K∧Stay K w w')∨
   (A.2.1=0∧(q0T st.m.L lv st.m.nx).2=0∧ ∃f:List UInt8,128≤f.length∧f.length≤64*((q1P A.1).length/20+2)∧ ∃c o τ,q2H A.2.2 (st.m.add (q0T st.m.L lv st.m.nx).1 st.m.ck) st.m.nx (q1P A.1) f=(c,o,τ)∧
    ((o =none∧e= .returned (.int .i64 c)∧IxK wb w' g gx st τ K∧Stay K w w')∨
    ∃ L b may j,o=some L∧j≤(q0y st.m.L lv).1.length∧((q3d τ (q0y st.m.L lv).1).1=0→j=(q0y st.m.L lv).1.length)∧e= .returned (.int .i64 (q3d τ (q0y st.m.L lv).1).1)∧
     IxK wb w' g gx ((st.put (st.m.add (q0T st.m.L lv st.m.nx).1 st.m.ck) st.m.nx ⟨b,L,may⟩).del ((q0y st.m.L lv).1.take j)) (q3d τ (q0y st.m.L lv).1).2 K∧Stay K w w'))))
section
variable {wb w0 w W W1 w1 w2:World} {g gx gm gt B:Nat} {st st1:IxSt} {F Y Y1 K K' V T:Nat→Prop} {σ σ1:DM} {va v v1 v2 vm:Value} {vs:List Value} {ns:List Int} {acc:List (List En)} {M L:List En}
theorem IxI.delT {D:DataW Unit} {nn:Nat} (h:IxI w gx g gm gt st v vs vm D nn Y) {n:Int}
  (hO:w2.ownsMap Tryz.prog 3 q5Y gt nn (D.del (.int .i64 n))) (hoff:OffS (fun i=>i=gt) w w2):IxI w2 gx g gm gt (st.del [n]) v vs vm (D.del (.int .i64 n)) nn Y:=by
 have hY: ∀i,Y i→w2.heap[i]? =w.heap[i]? :=fun i hi=>hoff.block i (h.lt i hi) fun e=>h.apart i hi (.inr (.inr e))
 refine ⟨h.blk.same (hoff.block _ h.blk.lt h.ne.2.1),?_,q2b h.lev fun i hi=>hY i (h.inY i (hi.elim .inl fun e=> .inr (.inl e))),hO,h.cnt,fun x=>?_,fun x e hx=>?_,h.inY,fun i hi=>Nat.lt_of_lt_of_le (h.lt i hi) hoff.size,h.apart,h.ne⟩
 ·refine h.mem.same fun i hi=>?_
  rcases hi with rfl|hi
  ·exact hoff.block _ h.mem.blk.lt h.ne.2.2
  ·exact hY i (h.inY i (.inr (.inr hi)))
 ·rw[z9n h.look x]
  unfold IxSt.del;simp only[List.mem_singleton]
 ·unfold IxSt.del at hx
  simp only[List.mem_singleton] at hx
  split at hx
  ·cases hx
  ·exact (h.tab x e hx).same hoff.size hY
theorem z9c (h : IxK wb w g gx st σ K) (hfull:st.full) (lv:Int) (hc:st.c<1000000)
  (hs: ∀A,q6v σ (q0y st.m.L lv).1 []=A→A.2.1=0→(∀L∈A.1,q0u L∧ ∀x∈L,q3B x=true)∧A.1.flatten.length≤1000000∧(q1P A.1).length≤1000):
  Calls Tryz.prog 57 #[.pointer (some ⟨gx,0,none⟩),.int .i64 lv] w (q6c wb w g gx st σ lv K):=by
 have HK:=η41 h;have HS:=η41 hs;obtain ⟨F,gm,gt,Y,h1⟩:=h;have HN:=η41 (q6y h1.i.x);have hok:=h1.i.x.1;have hbd:=Man.bounds hok.man;obtain ⟨_,v,vs,vm,D,nn,hi⟩:=h1.i.x;obtain ⟨av,kv,rfl,hgr⟩:=hi.grid;have c4:=hi.c4;have HPi:=η41 (y1H av st.m.L.length kv st.m.L lv w hgr (by omega) (fun x hx=>(hbd.2.2.2.1 x hx).1));have HOk:=η41 hok;have HBd:=η41 hbd;clear hi hok hbd h1 hgr hs;go_enter Tryz.func57,Tryz.ntmps57;go_wp2_with fail;refine HN.out.mono ?_;rintro e w1 ⟨rfl,rfl⟩;go_wp2_with fail;refine HPi.out.mono ?_;rintro e w1 ⟨va,rfl,hall,hb1⟩;obtain ⟨aa,ka,rfl⟩:=hall.slice;have HX1:=η41 hb1;have HAll:=η41 hall;obtain ⟨r,hr⟩: ∃r,q0y st.m.L lv=r:=⟨_,rfl⟩
 have HPk:=η41 hr;rw[hr] at HAll HS;rw[hr];obtain ⟨ns,c⟩:=r;simp only at HAll HS;simp only;clear hall hb1 hr HPi c4 HN;by_cases hc0:c=0
 case neg=>
  have g2:(c !=0)=true:=by simpa using hc0
  have HE:Hid (q6c wb w g gx st σ lv K (.returned (.int .i64 c)) w1):=η41 (.inl ⟨by rw[HPk.out];exact hc0,by rw[HPk.out],HK.out.grow HX1.out,HK.out.kExt HX1.out⟩);clear hc0;go_wp2_with fail;go_ret;exact HE.out
 case pos=>
 subst hc0;have HPm :Hid ((∀x∈ns,x∈st.m.L.flatten)∧ns.length≤40):=η41 (by
  have h:=HPk.out;unfold q0y at h
  split at h
  ·injection h with _ h;cases h
  ·split at h
   ·injection h with _ h;cases h
   ·injection h with h _
    subst h;refine ⟨fun x hx=>?_,HBd.out.2.2.1 _⟩;rcases Nat.lt_or_ge lv.toNat st.m.L.length with hl|hl
    ·rw[List.getD_eq_getElem?_getD,List.getElem?_eq_getElem hl] at hx
     exact List.mem_flatten.2 ⟨_,List.getElem_mem hl,hx⟩
    ·rw[List.getD_eq_getElem?_getD,List.getElem?_eq_none hl] at hx
     cases hx)
 obtain ⟨A,hA⟩: ∃A,q6v σ ns []=A:=⟨_,rfl⟩
 have HA:=η41 hA;have HFin:Hid (∀e w',((A.2.1≠0∧e= .returned (.int .i64 A.2.1)∧IxK wb w' g gx st A.2.2 K∧Stay K w w')∨
   (A.2.1=0∧(q0T st.m.L lv st.m.nx).2≠0∧e= .returned (.int .i64 (q0T st.m.L lv st.m.nx).2)∧IxK wb w' g gx st A.2.2 K∧Stay K w w')∨
   (A.2.1=0∧(q0T st.m.L lv st.m.nx).2=0∧ ∃f:List UInt8,128≤f.length∧f.length≤64*((q1P A.1).length/20+2)∧ ∃c o τ,q2H A.2.2 (st.m.add (q0T st.m.L lv st.m.nx).1 st.m.ck) st.m.nx (q1P A.1) f=(c,o,τ)∧
    ((o =none∧e= .returned (.int .i64 c)∧IxK wb w' g gx st τ K∧Stay K w w')∨
    ∃ L b may j,o=some L∧j≤ns.length∧((q3d τ ns).1=0→j=ns.length)∧e= .returned (.int .i64 (q3d τ ns).1)∧
     IxK wb w' g gx ((st.put (st.m.add (q0T st.m.L lv st.m.nx).1 st.m.ck) st.m.nx ⟨b,L,may⟩).del (ns.take j)) (q3d τ ns).2 K∧Stay K w w')))→q6c wb w g gx st σ lv K e w'):=η41 (by
  intro e w' h;refine .inr ⟨by rw[HPk.out],A,by rw[HPk.out];exact hA,?_⟩;rw[HPk.out];exact h)
 have HS2:=η41 (HS.out A hA);have HL0:=η41 (LsW.start HK.out (W:=w1) HX1.out HAll.out);obtain ⟨n,hn⟩: ∃n,ns.length=n:=⟨_,rfl⟩
 have HNl:=η41 hn;have hn40:n≤40:=by rw[←hn];exact HPm.out.2
 rw[hn] at HL0;rw[hn];clear hn hA HAll HS;go_wp2_with fail
 go_loopw [7,35] (fun lz i W=> ∃(k:Nat) (vs:List Value) (acc:List (List En)) (τ:DM),k≤n∧i= .int .i64 (k:Int)∧LsW wb w W g gx st τ K (.slice aa n ka) lz vs ns acc w.heap.size∧acc.length=k∧q6v τ (ns.drop k) acc=A) (fun _ i _=>n-(intOf i).toNat)
 case atStart=>exact ⟨0,[],[],σ,Nat.zero_le _,rfl,HL0.out,rfl,HA.out⟩
 case round =>
  obtain ⟨k,vsk,acc,τ,hk,rfl,hls,hal,hrr⟩:=hrel;have HL:=η41 hls;have HAl:=η41 hal;have HRr:=η41 hrr;obtain ⟨al,kl,rfl,hgrd⟩:=hls.ls.grid;rw[hal] at hgrd HL;rw[hal];clear hls hal hrr;by_cases hlt:k<n
  ·have hd:decide ((k:Int)<(n:Int))=true:=decide_eq_true (by omega)
   have q1:IntKind.i64.wrap ((k:Int)+1)=(k:Int)+1:=by rw[IntKind.wrap_i64];omega
   have q5:(k:Int)<(n:Int):=by omega
   obtain ⟨_,_,ea,hia⟩:=q1z HL.out.all;rw[HNl.out] at ea
   cases ea;rw[HNl.out] at hia;obtain ⟨ba,oa,rfl,n0⟩:=hia.at hlt;have hkl:k<ns.length:=by rw[HNl.out];exact hlt
   have hdrop:ns.drop k=ns.getD k 0::ns.drop (k+1):=by
    rw[List.drop_eq_getElem_cons hkl,List.getD_eq_getElem?_getD,List.getElem?_eq_getElem hkl];rfl
   have hmem:ns.getD k 0∈st.m.L.flatten:=HPm.out.1 _ (q3R ns k hkl);have hrr:=HRr.out;rw[hdrop] at hrr;obtain ⟨e,he⟩:=hfull _ hmem;have hwf:=(HBd.out.2.2.2.1 _ hmem).1;generalize ns.getD k 0=nk at*;rw[q6v] at hrr;obtain ⟨F2,gm2,gt2,Y2,h2⟩:=HL.out.i;have HTr:=η41 (y3U (h2.tb he));have HF2:=η41 h2;obtain ⟨_,v2,vs2,vm2,D2,nn2,hi2⟩:=h2.i.x;have c7:=hi2.c7;have hlk:=hi2.at hwf he;obtain ⟨r,hr⟩: ∃r,z6F τ nk=r:=⟨_,rfl⟩
   rw[hr] at hrr HTr;obtain ⟨M,c,τ2⟩:=r;simp only at hrr;have HRR:=η41 hrr;have HLk:=η41 hlk;clear hia hdrop hmem hrr h2 hi2 hr hgrd;go_wp2_with fail;refine HTr.out.mono ?_;rintro e3 w3 ⟨v3,rfl,hrv⟩;simp only at hrv;obtain ⟨a3,k3,rfl⟩:=q0G hrv.row;obtain ⟨⟨F3,h3⟩,hst3⟩:=HF2.out.row hrv;have hs3:=hrv.off.size;have HRw3:=η41 hrv.row;have HF3:=η41 h3;have HSt3:=η41 hst3;clear hrv h3 hst3 HTr c7 HLk hlk;by_cases hc:c=0
   case neg=>
    have g2:(c !=0)=true:=by simpa using hc
    have HE:Hid (q6c wb w g gx st σ lv K (.returned (.int .i64 c)) w3):=η41 (HFin.out _ _ (.inl (by
     have h:=HRR.out;rw[if_pos hc] at h;rw[←h];exact ⟨hc,rfl,⟨_,_,_,_,HF3.out.beside fun i hi=> .inl (.inl hi)⟩,HL.out.stay.trans fun i hi=>HSt3.out i (.inl hi)⟩)))
    clear hc;go_wp2_with fail;go_ret;exact HE.out
   case pos=>
   subst hc;have HR2:Hid (q6v τ2 (ns.drop (k+1)) (acc++[M])=A):=η41 (by have h:=HRR.out;rw[if_neg (fun h=>h rfl)] at h;exact h);obtain ⟨M1,hM1⟩: ∃M1,M.length=M1:=⟨_,rfl⟩
   have HM1:=η41 hM1;rw[hM1] at HF3 HRw3;rw[hM1];have HRow:Hid ((w3.alloc (.cells #[.slice a3 M1 k3] 148)).ownsRow w.heap.size 148 1 (.slice al k kl) k vsk):=η41 (by
    have h:=(HL.out.ls.same (w':=w3) fun i hi=>HSt3.out i (.inr (.inr hi))).own;rw[HAl.out] at h;exact q0J h (q0D _ _))
   have hwb:=HL.out.base.2;have HwS:Hid (w.heap.size≤(w3.alloc (.cells #[.slice a3 M1 k3] 148)).heap.size):=η41 (by rw[World.size_alloc];omega);clear HRR hM1
   go_wp2_with (at_builtin;refine q0K rfl (.tmp 52) (.tmp 54) 184 rfl w.heap.size 148 _ 1 24 Tryz.underlying184 Tryz.infoLs (by decide) (by decide) _ k vsk rfl HRow.out _ 1 1 [.slice a3 M1 k3] rfl rfl (fun h=>by cases h) (Rd.lit _ _ _) (fun u hu=>by rw[List.mem_singleton.1 hu];rfl) (by unfold maxLen;omega) (by omega) HwS.out ?_;intro v4 w4 hown hgrow hat;obtain ⟨a4,k4,rfl⟩:=q0G hown;have HO4:=η41 hown;have HG4:=η41 hgrow;have HA4:=η41 hat;clear hown hgrow hat)
   go_roundw
   case rel=>
    refine ⟨k+1,vsk++[.slice a3 M1 k3],acc++[M],τ2,hlt,by go_num,?_,by rw[List.length_append,HAl.out];rfl,HR2.out⟩;have hl:=HL.out;exact hl.push (M:=M) ⟨_,_,_,_,HF3.out⟩ HSt3.out hs3 (by rw[HM1.out];exact HRw3.out) (by rw[HAl.out];exact HO4.out) HG4.out HA4.out
   case measure=>simp[intOf];omega
  ·obtain rfl : k=n:=by omega
   have hd:decide ((k:Int)<(k:Int))=false:=decide_eq_false (by omega);have hrr:=HRr.out;rw[List.drop_of_length_le (by rw[HNl.out];exact Nat.le_refl _),q6v] at hrr;have HAE:=η41 hrr;have hss:=HS2.out (by rw[←hrr]);rw[←hrr] at hss;have HSs:=η41 hss;clear hrr hss HRr;obtain ⟨F2,gm2,gt2,Y2,h2⟩:=HL.out.i;have H2:=η41 h2;obtain ⟨_,v2,vs2,vm2,D2,nn2,hi2⟩:=h2.i.x;obtain ⟨av2,kv2,rfl,hgr2⟩:=hi2.grid;have c1:=hi2.c1;have c2:=hi2.c2;have c3:=hi2.c3;have c4:=hi2.c4;have HCp:=η41 (q7q st.m.nx st.m.ck st.m.sd av2 st.m.L.length kv2 st.m.L wr hgr2 (fun i=>by have:=HBd.out.2.2.1 i;omega) (by have:=HBd.out.1;omega));have HGrd:=η41 (fun W (hx:Ext wr W)=>hgrd.ext hx);clear hgr2 h2 hi2 hgrd;go_wp2_with fail;refine HCp.out.mono ?_;rintro e w2 ⟨v2',vs2',rfl,hog,hb⟩;have HX2:=η41 hb;obtain ⟨a2,k2,rfl,hgr2⟩:=hog.grid;have HRe:=η41 (fun W (k:Ext w2 W)=>z8V a2 st.m.L.length k2 st.m.L lv st.m.nx W (hgr2.ext k) (by have:=HBd.out.2.1;omega) (by have:=HBd.out.1;omega) (fun x hx=>(HBd.out.2.2.2.1 x hx).1))
   have HB2:Hid (Blk (w2.alloc (.cells #[.int .i64 st.m.nx,.int .i64 st.m.ck,.int .u64 st.m.sd,.slice a2 st.m.L.length k2] 81)) w2.heap.size 81 #[.int .i64 st.m.nx,.int .i64 st.m.ck,.int .u64 st.m.sd,.slice a2 st.m.L.length k2]):=η41 (Blk.new _ _ _);have HXB:=η41 (q0D w2 (.cells #[.int .i64 st.m.nx,.int .i64 st.m.ck,.int .u64 st.m.sd,.slice a2 st.m.L.length k2] 81));have HSB:Hid ((w2.alloc (.cells #[.int .i64 st.m.nx,.int .i64 st.m.ck,.int .u64 st.m.sd,.slice a2 st.m.L.length k2] 81)).heap.size=w2.heap.size+1):=η41 (World.size_alloc _ _);obtain ⟨wB,hwB⟩: ∃wB,w2.alloc (.cells #[.int .i64 st.m.nx,.int .i64 st.m.ck,.int .u64 st.m.sd,.slice a2 st.m.L.length k2] 81)=wB:=⟨_,rfl⟩
   obtain ⟨q6,hq6⟩: ∃q6,w2.heap.size=q6:=⟨_,rfl⟩
   have HQ6:=η41 hq6;rw[hwB] at HB2 HXB HSB;rw[hq6] at HB2 HSB;have m0:wB.cell? ⟨q6,0,none⟩=some (.int .i64 st.m.nx):=HB2.out.cell 0;have m3:wB.cell? ⟨q6,3,none⟩=some (.slice a2 st.m.L.length k2):=HB2.out.cell 3;clear hog hb hgr2 HCp;go_wp2_with fail;refine (HRe.out _ HXB.out).mono ?_;rintro e w3 ⟨v3,vs3,rfl,hog3,hb3⟩;obtain ⟨a3,k3,rfl,hgr3⟩:=hog3.grid;have HX3:=η41 ((HX2.out.trans HXB.out).trans hb3);have HB3:=η41 (HB2.out.ext hb3);have HOg3:=η41 hog3;obtain ⟨r,hr⟩: ∃r,q0T st.m.L lv st.m.nx=r:=⟨_,rfl⟩
   have HR:=η41 hr;rw[hr] at HOg3;rw[hr];obtain ⟨L2,er⟩:=r;simp only at HOg3;simp only;have b0:w3.cell? ⟨q6,0,none⟩=some (.int .i64 st.m.nx):=HB3.out.cell 0;have b1:w3.cell? ⟨q6,1,none⟩=some (.int .i64 st.m.ck):=HB3.out.cell 1;have b2:w3.cell? ⟨q6,2,none⟩=some (.int .u64 st.m.sd):=HB3.out.cell 2;have b3:w3.cell? ⟨q6,3,none⟩=some (.slice a2 st.m.L.length k2):=HB3.out.cell 3;have f0:w3.frozen? ⟨q6,0,none⟩=false:=HB3.out.free 0;have f3:w3.frozen? ⟨q6,3,none⟩=false:=HB3.out.free 3;have hq6w:=HB3.out.lt;have hsz1:=HX2.out.size;have hq6:=HQ6.out;have hszB:=HSB.out;have hwr:=HL.out.base.2;have hwrb:=HL.out.wbl;obtain ⟨V,hV⟩: ∃V:Nat→Prop,V=fun i=>((Value.slice a3 L2.length k3).ownBlock=some i∨ ∃q,(vs3.getD q (.slice none 0 0)).ownBlock=some i):=⟨_,rfl⟩
   have hVl: ∀i,V i→wB.heap.size≤i∧i<w3.heap.size:=fun i hi=>q4s HOg3.out i (by rw[hV] at hi;exact hi)
   have hF3:IxF wb w3 g F2 τ gx gm2 gt2 st Y2 (fun i=>((K i∨z2w (.slice aa k ka) (.slice al k kl) vsk i)∨i=q6)∨V i):=H2.out.more HX3.out fun i hi=>by
    rcases hi with (hi|hi)|hi
    ·exact .inl hi
    ·exact .inr ⟨by omega,by rw[hi];exact hq6w⟩
    ·have:=hVl i hi;exact .inr ⟨by omega,this.2⟩
   have HF3:=η41 hF3;have HVl:=η41 hVl;have HV:=η41 hV;have HSt3:Hid (Stay (fun i=>K i∨z2w (.slice aa k ka) (.slice al k kl) vsk i) wr w3):=η41 (H2.out.kExt HX3.out);clear hog3 hgr3 hb3 hr hF3 hVl hV HRe c1 c2 c3 c4 m0 m3 HQ6 HSB;by_cases her:er=0
   case neg=>
    have g2:(er !=0)=true:=by simpa using her
    have HE:Hid (∀W,OffS (fun i=>i=q6) w3 W→q6c wb w g gx st σ lv K (.returned (.int .i64 er)) W):=η41 fun W hW=>HFin.out _ _ (.inr (.inl (by
     rw[←HAE.out,HR.out];refine ⟨rfl,her,rfl,⟨_,_,_,_,(HF3.out.side hW.size (hW.ext HF3.out.ext fun i hi=>by rw[hi];have:=H2.out.ext.size;omega) fun i hi hn=>hW.block i hi fun e=>hn (.inl (.inr e))).beside fun i hi=> .inl (.inl (.inl hi))⟩,fun i hi=>?_⟩;have h1:=(H2.out.k i (.inl hi)).1;rw[hW.block i (Nat.lt_of_lt_of_le h1 HX3.out.size) (by omega),HSt3.out i (.inl hi)];exact HL.out.stay i hi)))
    clear her;go_wp2_with fail;go_ret;exact HE.out _ (OffS.set (F:=fun i=>i=q6) _ rfl _ _)
   case pos=>
   subst her;have q1:IntKind.i64.wrap (st.m.nx+1)=st.m.nx+1:=by have:=HBd.out.2.2.2.2;rw[IntKind.wrap_i64];omega
   go_wp2_with fail;have hoff4:OffS (fun i=>i=q6) w3 ((w3.setCell ⟨q6,3,none⟩ (.slice a3 L2.length k3)).setCell ⟨q6,0,none⟩ (.int .i64 (st.m.nx+1))):=
    (OffS.set (F:=fun i=>i=q6) w3 rfl 3 (.slice a3 L2.length k3)).trans (OffS.set (F:=fun i=>i=q6) _ rfl 0 (.int .i64 (st.m.nx+1)))
   have hbx4:Blk ((w3.setCell ⟨q6,3,none⟩ (.slice a3 L2.length k3)).setCell ⟨q6,0,none⟩ (.int .i64 (st.m.nx+1))) q6 81 #[.int .i64 (st.m.nx+1),.int .i64 st.m.ck,.int .u64 st.m.sd,.slice a3 L2.length k3]:=
    (HB3.out.set 3 (.slice a3 L2.length k3)).set 0 (.int .i64 (st.m.nx+1))
   obtain ⟨w4,hw4⟩: ∃w4,(w3.setCell ⟨q6,3,none⟩ (.slice a3 L2.length k3)).setCell ⟨q6,0,none⟩ (.int .i64 (st.m.nx+1))=w4:=⟨_,rfl⟩
   rw[hw4] at hoff4 hbx4;simp only[hw4];have hF4:IxF wb w4 g F2 τ gx gm2 gt2 st Y2 (fun i=>((K i∨z2w (.slice aa k ka) (.slice al k kl) vsk i)∨i=q6)∨V i):=HF3.out.side hoff4.size (hoff4.ext HF3.out.ext fun i hi=>by rw[hi];have:=H2.out.ext.size;omega) fun i hi hn=>hoff4.block i hi fun e=>hn (.inl (.inr e))
   have hman:ManV w4 (st.m.add L2 st.m.ck) (.slice a3 L2.length k3) vs3 V:=⟨q2b (q6a HOg3.out (Nat.zero_le _)) fun i hi=>hoff4.block i (q4s HOg3.out i hi).2 (fun e=>by have:=(q4s HOg3.out i hi).1;omega),fun i hi=>by rw[HV.out];exact hi⟩
   have hXr4:Ext wr w4:=hoff4.ext HX3.out fun i hi=>by rw[hi];omega
   have HKV:Hid (∀i,V i→wb.heap.size≤i∧¬((K i∨z2w (.slice aa k ka) (.slice al k kl) vsk i)∨i=q6)):=η41 fun i hi=>by
    have h1:=HVl.out i hi;have h2:=H2.out.ext.size;refine ⟨by omega,?_⟩;rintro (h3|h3)
    ·have:=(H2.out.k i h3).1;omega
    ·omega
   have HSt4:Hid (Stay (fun i=>K i∨z2w (.slice aa k ka) (.slice al k kl) vsk i) wr w4):=η41 fun i hi=>hXr4.block i (H2.out.k i hi).1
   have HC:Hid (∀W,Ext w4 W→W.cell? ⟨q6,0,none⟩=some (.int .i64 (st.m.nx+1))∧W.cell? ⟨q6,1,none⟩=some (.int .i64 st.m.ck)∧W.cell? ⟨q6,2,none⟩=some (.int .u64 st.m.sd)∧W.cell? ⟨q6,3,none⟩=some (.slice a3 L2.length k3)):=η41 fun W hW=>
    ⟨(hbx4.ext hW).cell 0,(hbx4.ext hW).cell 1,(hbx4.ext hW).cell 2,(hbx4.ext hW).cell 3⟩
   have HMg:=η41 (fun W (hx:Ext w4 W)=>z7M W (HGrd.out W (hXr4.trans hx)) (by omega) HSs.out.2.1 (fun L hL=>(HSs.out.1 L hL).1));have HF4:=η41 hF4;have HMan:=η41 hman;have hbd:=HBd.out;have hRm:=(q7W HR.out).2;have hUl:(q1P acc).length≤1000:=HSs.out.2.2;have hUo:=y0Y (Ls:=acc) fun L hL=>(HSs.out.1 L hL).2
   obtain ⟨U,hU⟩: ∃U,q1P acc=U:=⟨_,rfl⟩
   rw[hU] at HMg hUl hUo;have HU:=η41 hU;have HTu:Hid (∀W (hx:Ext w4 W) (ae:Option Addr) (ce:Nat),Ens W ae U.length ce U→Calls Tryz.prog 106 #[.pointer (some ⟨gx,0,none⟩),.agg #[.int .i64 (st.m.nx+1),.int .i64 st.m.ck,.int .u64 st.m.sd,.slice a3 L2.length k3],.int .i64 st.m.nx,.slice ae U.length ce] W fun e w'=>
    ∃f:List UInt8,128≤f.length∧f.length≤64*(U.length/20+2)∧e= .returned (.int .i64 (q2H τ (st.m.add L2 st.m.ck) st.m.nx U f).1)∧y1a wb W g gx st (st.m.add L2 st.m.ck) st.m.nx (fun i=>(K i∨z2w (.slice aa k ka) (.slice al k kl) vsk i)∨i=q6) V (q2H τ (st.m.add L2 st.m.ck) st.m.nx U f) w'):=η41 fun W hx ae ce he=>
    y0z (m:=st.m.add L2 st.m.ck) (hF4.grow hx) (hman.same fun i hi=>hF4.kExt hx i (.inr hi)) HKV.out ⟨hbd.2.2.2.2.1,hbd.2.2.2.2.2.1⟩ he hUl hUo (fun x hx=>by
     rcases hRm.1 x hx with h|h
     ·exact (hbd.2.2.2.1 x h).1
     ·rw[h];exact WalkArith.wf_i64 (by omega)) (by have:=hRm.2;show L2.flatten.length≤1000;omega) HOk.out.man.2.1 HOk.out.man.2.2 hc
   have HX0:=η41 (Ext.drew (Ext.refl w4));clear hoff4 hbx4 hF4 hman hbd hRm b0 b1 b2 b3 f0 f3 hw4 hU hXr4;obtain ⟨y0,y1,y2,y3⟩:=HC.out _ HX0.out
   go_region_law (go_simp;first|(go_at_call 112;refine (HMg.out _ HX0.out).mono ?_;rintro e w5 ⟨v5,rfl,hr5,hb5⟩;obtain ⟨ae,ce,rfl,hens5⟩:=Ens.of_own (Own.of_row hr5);have HX5:=η41 (HX0.out.trans hb5);have HE5:=η41 hens5;obtain ⟨r0,r1,r2,r3⟩:=HC.out _ HX5.out;clear hr5 hb5 hens5)|(go_at_call 106;refine (HTu.out _ HX5.out _ _ HE5.out).mono ?_;rintro e w6 ⟨f,f1,f2,rfl,hT⟩;have HTR:=η41 hT;clear hT))
   all_goals
    have HS5:Hid (Stay (fun i=>K i∨z2w (.slice aa k ka) (.slice al k kl) vsk i) wr w5):=η41 (HSt4.out.trans fun i hi=>HF4.out.kExt HX5.out i (.inl (.inl hi)));clear HTu HMg HC HE5 y0 y1 y2 y3 r0 r1 r2 r3;obtain ⟨r,hr⟩: ∃r,q2H τ (st.m.add L2 st.m.ck) st.m.nx U f=r:=⟨_,rfl⟩
    have HRr:=η41 hr;rw[hr] at HTR;simp only[hr];obtain ⟨c,o,τ3⟩:=r
    cases o with
    | none=>
     have g2:(c !=0)=true:=by simpa using q9w hr
     have HE:Hid (q6c wb w g gx st σ lv K (.returned (.int .i64 c)) w6):=η41 (HFin.out _ _ (.inr (.inr (by
      rw[←HAE.out,HR.out];refine ⟨rfl,rfl,f,f1,by simp only;rw[HU.out];exact f2,c,none,τ3,by simp only;rw[HU.out];exact HRr.out,.inl ⟨rfl,rfl,?_⟩⟩;have h:=HTR.out;exact ⟨h.1.beside fun i hi=> .inl (.inl hi),HL.out.stay.trans (fun i hi=>HS5.out i (.inl hi))|>.trans fun i hi=>h.2 i (.inl (.inl hi))⟩))))
     clear hr;go_wp2_with fail;go_ret;exact HE.out
    | some L =>
     obtain rfl:=z0A hr;obtain ⟨b,may,hk,hst⟩:=HTR.out;have HS6:Hid (Stay (fun i=>K i∨z2w (.slice aa k ka) (.slice al k kl) vsk i) wr w6):=η41 (HS5.out.trans fun i hi=>hst i (.inl hi));have hw56:wr.heap.size≤w6.heap.size:=by
      obtain ⟨F9,gm9,gt9,Y9,q9⟩:=hk;have h1:=(q9.k q6 (.inr rfl)).1;omega
     obtain ⟨D,hD⟩: ∃D,q3d τ3 ns=D:=⟨_,rfl⟩
     have HD:=η41 hD;obtain ⟨st2,hst2⟩: ∃st2,st2=st.put (st.m.add L2 st.m.ck) st.m.nx ⟨b,L,may⟩:=⟨_,rfl⟩
     rw[←hst2] at hk;have HFin2:Hid (∀e w',(∃j,j≤ns.length∧(D.1=0→j=ns.length)∧e= .returned (.int .i64 D.1)∧IxK wb w' g gx (st2.del (ns.take j)) D.2 K∧Stay K w w')→q6c wb w g gx st σ lv K e w'):=η41 (by
      rintro e w' ⟨j,j1,j2,j3,j4,j5⟩;refine HFin.out _ _ (.inr (.inr ?_));rw[←HAE.out,HR.out];refine ⟨rfl,rfl,f,f1,by simp only;rw[HU.out];exact f2,0,some L,τ3,by simp only;rw[HU.out];exact HRr.out,.inr ⟨L,b,may,j,rfl,j1,?_,?_,?_,j5⟩⟩
      ·rw[hD];exact j2
      ·rw[hD];exact j3
      ·rw[hD,←hst2];exact j4)
     have HL2:Hid (LsW wb w w6 g gx (st2.del (ns.take 0)) τ3 K (.slice aa k ka) (.slice none 0 0) [] ns [] w.heap.size):=η41 ⟨by
       rw[List.take_zero,IxSt.del_nil];exact hk.beside fun i hi=>by
        rcases hi with hi|hi|hi|⟨q,hi⟩
        ·exact .inl (.inl hi)
        ·exact .inl (.inr (.inl hi))
        ·cases hi
        ·simp[Value.ownBlock] at hi,HL.out.all.same fun i hi=>HS6.out i (.inr (.inl hi)),EGo.nil _ _,HL.out.stay.trans fun i hi=>HS6.out i (.inl hi),⟨Nat.le_refl _,by omega⟩,HL.out.kl,HL.out.wbl⟩
     clear hr hk hst hD hst2 HTR HS5 HS6 HL HF3 HF4 HMan HKV HSt3 HSt4 HVl HV HX5 HX0 HU HR HRr HFin HSs HAE HOg3 HB3 HX3 HB2 HXB HX2 HGrd H2;go_wp2_with fail
     go_loopw [90] (fun i W=> ∃(j:Nat) (τk:DM),j≤k∧i= .int .i64 (j:Int)∧LsW wb w W g gx (st2.del (ns.take j)) τk K (.slice aa k ka) (.slice none 0 0) [] ns [] w.heap.size∧q3d τk (ns.drop j)=D) (fun i _=>k-(intOf i).toNat)
     case atStart=>exact ⟨0,τ3,Nat.zero_le _,rfl,HL2.out,HD.out⟩
     case round=>
      obtain ⟨j,τk,hj,rfl,hls,hrr⟩:=hrel;have HL:=η41 hls;have HRr:=η41 hrr;clear hls hrr;by_cases hlt2:j<k
      ·have hd:decide ((j:Int)<(k:Int))=true:=decide_eq_true (by omega)
       have q1:IntKind.i64.wrap ((j:Int)+1)=(j:Int)+1:=by rw[IntKind.wrap_i64];omega
       have q5:(j:Int)<(k:Int):=by omega
       obtain ⟨_,_,ea,hia⟩:=q1z HL.out.all;rw[HNl.out] at ea
       cases ea;rw[HNl.out] at hia;obtain ⟨ba,oa,rfl,n0⟩:=hia.at hlt2;have hkl:j<ns.length:=by rw[HNl.out];exact hlt2
       have hdrop:ns.drop j=ns.getD j 0::ns.drop (j+1):=by
        rw[List.drop_eq_getElem_cons hkl,List.getD_eq_getElem?_getD,List.getElem?_eq_getElem hkl];rfl
       have htake:ns.take (j+1)=ns.take j++[ns.getD j 0]:=q0U ns 0 j hkl;have hmem:ns.getD j 0∈st.m.L.flatten:=HPm.out.1 _ (q3R ns j hkl);have hrr:=HRr.out;rw[hdrop] at hrr;have hwf:=(HBd.out.2.2.2.1 _ hmem).1;have hnb:=HBd.out.2.2.2.1 _ hmem;generalize ns.getD j 0=nk at*;rw[q3d] at hrr;obtain ⟨F2,gm2,gt2,Y2,h2⟩:=HL.out.i;have HF2:=η41 h2;obtain ⟨hok2,v2,vs2,vm2,D2,nn2,hi2⟩:=h2.i.x;have c7:=hi2.c7;have HI2:=η41 hi2;have HOk2:=η41 hok2;have HMp:=η41 hi2.map;have HKey:Hid (keyOf Tryz.prog 3 (.int .i64 nk)=some (.int .i64 nk)):=η41 (keyOf_int_mk Tryz.underlying3 hwf);have HRR:=η41 hrr;have HTk:=η41 htake;clear hia hdrop htake hmem hrr h2 hi2 hok2 hwf hnb
       go_wp2_with (at_delete;refine wpList_delete_own _ rfl _ _ 140 3 rfl 146 Tryz.keyInt Tryz.underlying140 q5Y gt2 nn2 D2 rfl HMp.out _ (.int .i64 nk) rfl HKey.out ?_;intro w3 hown3 hturn3;have HO3:=η41 hown3;have HT3:=η41 hturn3;have HIX3:=η41 (HI2.out.delT hown3 (OffS.turned hturn3 rfl));have c03:=HIX3.out.c0;clear hown3 hturn3)
       have hoff3:=OffS.turned HT3.out (F:=fun i=>i=gt2) rfl;obtain ⟨h3,hst3⟩:=HF2.out.turn (st1:=st2.del (ns.take (j+1))) (Y1:=Y2) ⟨⟨HOk2.out.man,HOk2.out.mem,HOk2.out.c⟩,_,_,_,_,_,by
        have h:=HIX3.out;rw[IxSt.del_snoc,←HTk.out] at h;exact h⟩ (hoff3.mono fun i _ hi=> .inr (.inr hi)) (fun i hi=> .inl hi)
       have HF3:=η41 h3;have HL3:=η41 (HL.out.step ⟨_,_,_,_,h3⟩ hst3 hoff3.size);have HDr:=η41 (z3d h3.i.d nk);obtain ⟨r,hr⟩: ∃r,q2U τk nk=r:=⟨_,rfl⟩
       have hrr:=HRR.out;rw[hr] at HDr hrr;obtain ⟨c,τ4⟩:=r;simp only at hrr;have HRR2:=η41 hrr;clear hrr hr h3 hst3 hoff3 HRR;refine HDr.out.mono ?_;rintro e4 w4' ⟨rfl,hd4⟩;obtain ⟨h4,hst4⟩:=HF3.out.disk hd4;have HL4:=η41 (HL3.out.step ⟨_,_,_,_,h4⟩ hst4 hd4.off.size);clear hd4 h4 hst4 HDr HF3 c7 c03 HIX3 HMp HKey HO3 HT3;by_cases hc4:c=0
       case neg=>
        have g2:(c !=0)=true:=by simpa using hc4
        have HE:Hid (q6c wb w g gx st σ lv K (.returned (.int .i64 c)) w4'):=η41 (HFin2.out _ _ (by
         have h:=HRR2.out;rw[if_pos hc4] at h;rw[←h];exact ⟨j+1,by rw[HNl.out];exact hlt2,fun e=>absurd e hc4,rfl,HL4.out.i.beside fun i hi=> .inl hi,HL4.out.stay⟩))
        clear hc4;go_wp2_with fail;go_ret;exact HE.out
       case pos=>
       subst hc4;have HR5:Hid (q3d τ4 (ns.drop (j+1))=D):=η41 (by have h:=HRR2.out;rw[if_neg (fun h=>h rfl)] at h;exact h);clear HRR2;go_wp2_with fail
       go_roundw
       case rel=>exact ⟨j+1,τ4,hlt2,by go_num,HL4.out,HR5.out⟩
       case measure=>simp[intOf];omega
      ·obtain rfl:j=k:=by omega
       have hd:decide ((j:Int)<(j:Int))=false:=decide_eq_false (by omega);have hrr:=HRr.out;rw[List.drop_of_length_le (by rw[HNl.out];exact Nat.le_refl _),q3d] at hrr;have HE:Hid (q6c wb w g gx st σ lv K (.returned (.int .i64 0)) wr):=η41 (HFin2.out _ _ (by
        rw[←hrr];exact ⟨j,by rw[HNl.out];exact Nat.le_refl _,fun _=>HNl.out.symm,rfl,HL.out.i.beside fun i hi=> .inl hi,HL.out.stay⟩))
       clear hrr;go_wp2_with fail;go_ret;exact HE.out
end
end
section
open Go.RowKit
theorem z1N : ∀{a b:List En},q0u a→q0u b→(∀x∈a,x∈b)→a.Sublist b
 |[],b,_,_,_=>List.nil_sublist b
 |x::a,[],_,_,h=>absurd (h x (.head _)) (by simp)
 | x :: a,y::b,ha,hb,h=>by
  obtain ⟨h1,h2⟩:=List.pairwise_cons.1 ha;obtain ⟨h3,h4⟩:=List.pairwise_cons.1 hb;rcases List.mem_cons.1 (h x (.head _)) with e|hx
  ·subst e
   refine (z1N h2 h4 fun z hz=>?_).cons_cons x;rcases List.mem_cons.1 (h z (.tail _ hz)) with e|hz2
   ·have:=h1 z hz
    rw[e,q0d] at this;cases this
   ·exact hz2
  ·refine (z1N ha h4 fun z hz=>?_).cons y
   rcases List.mem_cons.1 (h z hz) with e|hz2
   ·rcases List.mem_cons.1 hz with e2|hz3
    ·rw[e2];exact hx
    ·have h5:=h1 z hz3
     have h6:=h3 x hx;rw[e] at h5;have:=q1X h5 h6;rw[q0d] at this;cases this
   ·exact hz2
theorem q4x {a b:List En} (ha:q0u a) (hb:q0u b) (h: ∀x∈a,x∈b):a.length≤b.length:=(z1N ha hb h).length_le
def TL (st:IxSt) (n:Int):List En:=match st.t n with|some e=>e.L|none=>[]
theorem q2h {st:IxSt} {n:Int} {e:TE} (h:st.t n=some e):TL st n=e.L:=by unfold TL;rw[h]
structure PInv (st:IxSt) (σ:DM) (c s:Int) (φ:Fls) (u cnt:Nat) (B:List En):Prop where
 fl:Fl σ c s φ u cnt
 man:st.m.ok
 full:st.full
 tb: ∀n e,st.t n=some e→n∈st.m.L.flatten∧φ (q0B 116 n)=some (q2Q e.L)∧(∃y,φ (q0B 98 n)=some y)∧okM e.L∧ ∀x∈e.L,e.may x.1=true
 only: ∀nm,φ nm≠none→nm=mapN∨(∃n∈st.m.L.flatten,nm=q0B 116 n∨nm=q0B 98 n)∨ ∃k:Nat,k≤999999∧nm=q0B 99 (k:Int)
 okw:okM st.w
 okB:okM B
 mem: ∀x,x∈B↔x∈st.w∨ ∃n e,st.t n=some e∧x∈e.L
section
variable {st :IxSt} {σ σ':DM} {c s:Int} {φ:Fls} {u cnt:Nat} {B:List En}
theorem PInv.grow (h:PInv st σ c s φ u cnt B):GrowI st.m.L st.m.nx.toNat:=by
 have hb:=Man.bounds h.man;have hv:=h.man.1;unfold q0Z at hv;simp only[Bool.and_eq_true] at hv;exact ⟨hv.1.2,fun x hx=>by have:=hb.2.2.2.1 x hx;omega⟩
theorem PInv.range (h:PInv st σ c s φ u cnt B) {n:Int} (hn:n∈st.m.L.flatten):0≤n∧n≤999999∧n<st.m.nx:=by
 have hb:=Man.bounds h.man;have:=hb.2.2.2.1 n hn;omega
theorem PInv.tell (h:PInv st σ c s φ u cnt B) (k:Nat):PInv st (tellN k σ) c s φ u cnt B:=⟨Fl.tells k h.fl,h.man,h.full,h.tb,h.only,h.okw,h.okB,h.mem⟩
theorem PInv.mono (h:PInv st σ c s φ u cnt B) {u' cnt':Nat} (h1:u≤u') (h2:cnt≤cnt'):PInv st σ c s φ u' cnt' B:=⟨h.fl.mono h1 h2,h.man,h.full,h.tb,h.only,h.okw,h.okB,h.mem⟩
theorem PInv.wlen (h:PInv st σ c s φ u cnt B):st.w.length≤B.length:=q4x h.okw.sort h.okB.sort fun x hx=>(h.mem x).2 (.inl hx)
theorem PInv.tlen (h:PInv st σ c s φ u cnt B) {n:Int} {e:TE} (he:st.t n=some e):e.L.length≤B.length:=q4x (h.tb n e he).2.2.2.1.sort h.okB.sort fun x hx=>(h.mem x).2 (.inr ⟨n,e,he,hx⟩)
theorem PInv.wl (h:PInv st σ c s φ u cnt B) {n:Int} {e:TE} (he:st.t n=some e):Wl σ n e.L:=h.fl.wl (h.tb n e he).2.1
theorem PInv.add (h:PInv st σ c s φ u cnt B) {x:En} (hx:q3B x=true) (hl:B.length<50000):PInv {st with w:=q4K x st.w} σ c s φ u cnt (q4K x B):=by
 have hw:=h.wlen;refine ⟨h.fl,h.man,h.full,h.tb,h.only,h.okw.add hx (by omega),h.okB.add hx hl,fun y=>?_⟩;show y∈q4K x B↔y∈q4K x st.w∨_;rw[mem_addE,mem_addE,h.mem y]
 constructor
 ·rintro (h1|h1|h1)
  ·exact .inl (.inl h1)
  ·exact .inl (.inr h1)
  ·exact .inr h1
 ·rintro ((h1|h1)|h1)
  ·exact .inl h1
  ·exact .inr (.inl h1)
  ·exact .inr (.inr h1)
theorem z1m (h:PInv st σ c s φ u cnt B) (x a b:Int): ∀(ns:List Int) (acc:List (List En)) (k0:Nat),(∀n∈ns,n∈st.m.L.flatten)→
  ∃k,q4E st x (max a 0) (min b 1073741824) (tellN k0 σ) ns acc=(acc++ns.map (fun n=>q0v (TL st n) x (max a 0) (min b 1073741824)),0,tellN k σ)
 |[],acc,k0,_=>⟨k0,by rw[q4E];simp⟩
 | n::ns,acc,k0,hn=>by
  obtain ⟨e,he⟩:=h.full n (hn n (by simp));have ht:=h.tb n e he;obtain ⟨k,_,_,hr⟩:=z8E ((h.wl he).tellN k0) ht.2.2.2.1.sort ht.2.2.2.1.ok ht.2.2.2.2 x (max a 0) (min b 1073741824);rw[show max (max a 0) 0=max a 0 by omega,show min (min b 1073741824) 1073741824=min b 1073741824 by omega,q3c] at hr;obtain ⟨k2,h2⟩:=z1m h x a b ns (acc++[q0v e.L x (max a 0) (min b 1073741824)]) (k0+k) (fun y hy=>hn y (by simp[hy]));refine ⟨k2,?_⟩;rw[q4E,he];simp only;rw[hr];simp only;rw[if_neg (fun h=>h rfl),h2,List.map_cons,q2h he,List.append_assoc]
  rfl
theorem z6k (h:PInv st σ c s φ u cnt B): ∀(ns:List Int) (acc:List (List En)) (k0:Nat),(∀n∈ns,n∈st.m.L.flatten)→ ∃k,q6v (tellN k0 σ) ns acc=(acc++ns.map (TL st),0,tellN k σ)
 |[],acc,k0,_=>⟨k0,by rw[q6v];simp⟩
 | n::ns,acc,k0,hn=>by
  obtain ⟨e,he⟩:=h.full n (hn n (by simp));have ht:=h.tb n e he;have hr:=y2T ((h.wl he).tellN k0) ht.2.2.2.1.sort ht.2.2.2.1.ok (by have:=ht.2.2.2.1.len;omega);rw[q9D] at hr;obtain ⟨k2,h2⟩:=z6k h ns (acc++[e.L]) (k0+1) (fun y hy=>hn y (by simp[hy]));refine ⟨k2,?_⟩;rw[q6v,hr];simp only;rw[if_neg (fun h=>h rfl),h2,List.map_cons,q2h he,List.append_assoc]
  rfl
theorem mem_range {L:List En} {x a b:Int} {y:En}:y∈q0v L x a b↔y∈L∧y.1=x∧a≤y.2.1∧y.2.1≤b:=by
 unfold q0v;rw[List.mem_filter];simp only[Bool.and_eq_true,decide_eq_true_eq]
 constructor
 ·rintro ⟨h1,⟨h2,h3⟩,h4⟩;exact ⟨h1,h2,h3,h4⟩
 ·rintro ⟨h1,h2,h3,h4⟩;exact ⟨h1,⟨h2,h3⟩,h4⟩
theorem q5M {L:List En} (h:q0u L) (x a b:Int):q0u (q0v L x a b):=h.filter _
theorem z1D (h:PInv st σ c s φ u cnt B) (n:Int):q0u (TL st n)∧(∀x∈TL st n,q3B x=true)∧(TL st n).length≤B.length:=by
 unfold TL
 cases he:st.t n with
 |none=>exact ⟨List.Pairwise.nil,fun x hx=>by simp at hx,Nat.zero_le _⟩
 |some e=>exact ⟨(h.tb n e he).2.2.2.1.sort,(h.tb n e he).2.2.2.1.ok,h.tlen he⟩
theorem z4S {L:List (List En)} {k:Nat} (h: ∀l∈L,l.length≤k):L.flatten.length≤L.length*k:=by
 induction L with
 |nil=>simp
 | cons a r ih=>
  rw[List.flatten_cons,List.length_append,List.length_cons,Nat.add_mul];have h1:=h a (by simp);have h2:=ih fun l hl=>h l (by simp[hl])
  omega
theorem PInv.rangeIs (h:PInv st σ c s φ u cnt B) (x a b:Int): ∃k R,q4E st x (max a 0) (min b 1073741824) σ st.m.L.flatten [q0v st.w x (max a 0) (min b 1073741824)]=(R,0,tellN k σ)∧(∀L∈R,q0u L)∧R.flatten.length≤41*B.length∧q1P R=q0v B x (max a 0) (min b 1073741824):=by
 obtain ⟨k,e⟩:=z1m h x a b st.m.L.flatten [q0v st.w x (max a 0) (min b 1073741824)] 0 (fun n hn=>hn);have hS: ∀L∈[q0v st.w x (max a 0) (min b 1073741824)]++st.m.L.flatten.map (fun n=>q0v (TL st n) x (max a 0) (min b 1073741824)),q0u L∧L.length≤B.length:=fun L hL=>by
  rcases List.mem_append.1 hL with hL|hL
  ·rw[List.mem_singleton.1 hL]
   exact ⟨q5M h.okw.sort _ _ _,Nat.le_trans (List.length_filter_le _ _) h.wlen⟩
  ·obtain ⟨n,hn,rfl⟩:=List.mem_map.1 hL
   have:=z1D h n;exact ⟨q5M this.1 _ _ _,Nat.le_trans (List.length_filter_le _ _) this.2.2⟩
 refine ⟨k,_,e,fun L hL=>(hS L hL).1,?_,?_⟩
 ·have h1:=z4S fun l hl=>(hS l hl).2
  rw[List.length_append,List.length_map] at h1;have h2:=(Man.bounds h.man).2.1;simp only[List.length_cons,List.length_nil] at h1;have:(0+1+st.m.L.flatten.length)*B.length≤41*B.length:=Nat.mul_le_mul_right _ (by omega);omega
 ·refine q7F (q5I _) (q5M h.okB.sort _ _ _) fun y=>?_
  rw[mem_union,mem_range,h.mem y]
  constructor
  ·rintro ⟨L,hL,hy⟩
   rcases List.mem_append.1 hL with hL|hL
   ·rw[List.mem_singleton.1 hL,mem_range] at hy
    exact ⟨.inl hy.1,hy.2⟩
   ·obtain ⟨n,hn,rfl⟩:=List.mem_map.1 hL
    rw[mem_range] at hy;obtain ⟨e,he⟩:=h.full n hn;rw[q2h he] at hy;exact ⟨.inr ⟨n,e,he,hy.1⟩,hy.2⟩
  ·rintro ⟨h1|⟨n,e,he,h1⟩,h2⟩
   ·exact ⟨_,List.mem_append.2 (.inl (List.mem_singleton.2 rfl)),mem_range.2 ⟨h1,h2⟩⟩
   ·exact ⟨_,List.mem_append.2 (.inr (List.mem_map.2 ⟨n,(h.tb n e he).1,rfl⟩)),mem_range.2 ⟨by rw[q2h he];exact h1,h2⟩⟩
end
end
end Go.Proofs.YtjjfiejoeelndaaGreatDoor
