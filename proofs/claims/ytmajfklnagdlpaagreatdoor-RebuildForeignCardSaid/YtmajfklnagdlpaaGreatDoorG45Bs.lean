/- Walks: a table is laid, and a manifest that has it (index.turn). Plain laws: a disk that is well, its files as a function. Walks: a table is laid, and a manifest that has it (index.turn). Walks: what is in memory becomes a table (index.Flush). Walks: the tables of a level become one (index.Merge). Plain laws: an index on a disk that is well: what it has, and what becomes of it. Plain laws: a Flush, and a Merge, of an index on a disk that is well. Plain laws: a Merge of an index on a disk that is well; the last version. Plain laws: the files of a log and those of an index on one disk, apart and together. Walks: an index is opened (index.Open). -/
import Derived.Test.YtmajfklnagdlpaaGreatDoorG41Bs
import Derived.Test.YtmajfklnagdlpaaGreatDoorG44Bs
import Derived.Test.YtmajfklnagdlpaaGreatDoorG30Bs
import Derived.WideKeyEntry
import Derived.BigRegion
import Derived.Deep.RegionLaw
import Derived.StillTailTactics
import Derived.Test.YtmajfklnagdlpaaGreatDoorG38Bs
import Derived.Test.YtmajfklnagdlpaaGreatDoorG1Bs
import Derived.Test.YtmajfklnagdlpaaGreatDoorG34Bs
set_option linter.unusedVariables false
set_option linter.unusedSimpArgs false
namespace Go.Proofs.YtmajfklnagdlpaaGreatDoor
open Go.RowKit Go.Maps
set_option maxRecDepth 100000
set_option linter.unusedVariables false
set_option maxHeartbeats 6400000
def Man.S (m:Man):List UInt8:=(q1s m.nx m.ck m.sd m.L).1
def Man.E (m:Man):Int:=(q1s m.nx m.ck m.sd m.L).2
def q2P (σ:DM) (m:Man) (n:Int) (l:List En) (f:List UInt8):Int×Option (List En)×DM:=
  if (q0Y σ n l f).1≠0 then ((q0Y σ n l f).1,none,(q2h (q0Y σ n l f).2 n).2)
  else if (q1Z (q0Y σ n l f).2 m.S m.E).1≠0 then ((q1Z (q0Y σ n l f).2 m.S m.E).1,none,(q2h (q1Z (q0Y σ n l f).2 m.S m.E).2 n).2)
  else match q3s (q1Z (q0Y σ n l f).2 m.S m.E).2 n with
  |(none,e,τ)=>(e,none,τ)
  |(some L,_,τ)=>(0,some L,τ)
theorem Man.E_ok {m:Man} (h:m.E=0):q0T m.nx m.ck m.L=true:=by
  cases hv:q0T m.nx m.ck m.L with
  |true=>rfl
  |false=>unfold Man.E q1s at h;rw[hv] at h;cases h
theorem Man.E_valid {m:Man} (h:q0T m.nx m.ck m.L=true):m.E=0:=by unfold Man.E q1s;rw[h];rfl
theorem Man.S_le (m:Man):m.S.length≤300:=by
  cases hv:q0T m.nx m.ck m.L with
  |true=>unfold Man.S q1s;rw[hv];exact z8w m.sd hv
  |false=>unfold Man.S q1s;rw[hv];simp
theorem z7a {σ τ:DM} {S:List UInt8} {E:Int} (h:q1Z σ S E=(0,τ)):E=0:=by
  unfold q1Z at h
  split at h
  · injection h
  · next h1=>exact Decidable.not_not.1 h1
theorem z2m {c:Int} (h:c≠0):q3C c≠0:=by
  rcases z3E c with e|e<;>rw[e]
  · exact h
  · decide
theorem q8V {σ τ:DM} {n e:Int} (h:q3s σ n=(none,e,τ)):e≠0:=by
  unfold q3s at h
  split at h
  · next h1=>injection h with _ h2;injection h2 with h2 _;rw[←h2];exact z2m h1
  · split at h
    · injection h with _ h2;injection h2 with h2 _;rw[←h2];decide
    · split at h
      · injection h with _ h2;injection h2 with h2 _;rw[←h2];decide
      · injection h with h1 _;cases h1
theorem q7X {σ τ:DM} {n e:Int} {L:List En} (h:q3s σ n=(some L,e,τ)):e=0:=by
  unfold q3s at h
  split at h
  · injection h with h1 _;cases h1
  · split at h
    · injection h with h1 _;cases h1
    · split at h
      · injection h with h1 _;cases h1
      · injection h with _ h2;injection h2 with h2 _;exact h2.symm
theorem z2h {σ τ:DM} {m:Man} {n c:Int} {l:List En} {f:List UInt8} (h:q2P σ m n l f=(c,none,τ)):c≠0:=by
  unfold q2P at h
  split at h
  · next h1=>injection h with h2 _;rw[←h2];exact h1
  · split at h
    · next h1=>injection h with h2 _;rw[←h2];exact h1
    · split at h
      · next h1=>injection h with h2 _;rw[←h2];exact q8V h1
      · injection h with _ h2;injection h2 with h2 _;cases h2
theorem z2U {σ τ:DM} {m:Man} {n c:Int} {l L:List En} {f:List UInt8} (h:q2P σ m n l f=(c,some L,τ)):c=0:=by
  unfold q2P at h
  split at h
  · injection h with _ h2;injection h2 with h2 _;cases h2
  · split at h
    · injection h with _ h2;injection h2 with h2 _;cases h2
    · split at h
      · injection h with _ h2;injection h2 with h2 _;cases h2
      · injection h with h2 _;exact h2.symm
theorem z0x {H:Type} {P:Program} {k e t:TypeId} {R:Value→Option (DataW H×List MemPlace)} {w:World} {b:Nat} {es:Array MapEntry} {clock:Nat} (K:Keyed P k) (ht:P.underlying t=some (.map k e))
    {z:Value} (hz: ∀u:World,(zeroValue e).run P u= .ok z u) (hb:w.heap[b]?=some (.map es clock)) (F:WideElems.Fit P k R es clock) {key:Value} {kl:Lit} (hk:keyOf P k key=some kl) (val:Value):
    ∃ (v0:Value) (sn:Nat) (es1 es2:Array MapEntry) (c:Nat),(Instr.mapEntry t (.map (some b)) key).run P w= .ok (.tuple #[v0,goInt sn]) (ChangeMaps.setBlock w b (.map es1 c))∧
      (Instr.mapUpdate t (.map (some b)) key val).run P w= .ok () (ChangeMaps.setBlock w b (.map es2 c))∧
      ∀u:World,u.heap[b]?=some (.map es1 c)→(Instr.entryStore t (.map (some b)) (goInt sn) val).run P u= .ok () (ChangeMaps.setBlock u b (.map es2 c)):=by
  obtain ⟨hlt,hnd,_⟩:=F.stamped
  rcases K.find w hk es.toList F.keys with ⟨hf,hno⟩|⟨j,e0,hf,hat,hkey⟩
  · have hnd2:((es.toList++[(⟨key,z,clock⟩:MapEntry)]).map (·.born)).Nodup:=by
      rw[List.map_append,List.nodup_append]
      refine ⟨hnd,by simp,fun a ha c hc hac=>?_⟩
      obtain ⟨x,hx,rfl⟩:=List.mem_map.1 ha
      have h1:=hlt x hx
      simp at hc
      omega
    have hidx:(es.push ⟨key,z,clock⟩).findIdx? (fun x=>((x.born:Nat):Int)==((clock:Nat):Int))=some es.size:=by
      rw[WideElems.findIdx_arr,Array.toList_push]
      exact WideElems.findIdx_born (e0:=⟨key,z,clock⟩) hnd2 (by rw[List.getElem?_append_right (by simp)];simp)
    have hset:(es.push ⟨key,z,clock⟩).modify es.size (fun x=>{x with val:=val})=es.push ⟨key,val,clock⟩:=by
      refine Array.ext (by simp) fun i h1 h2=>?_
      rw[Array.getElem_modify,Array.getElem_push,Array.getElem_push]
      by_cases hi:i<es.size
      · rw[if_neg (by omega),dif_pos hi,dif_pos hi]
      · have:es.size=i:=by simp at h2;omega
        rw[if_pos this,dif_neg hi,dif_neg hi]
    refine ⟨z,clock,es.push ⟨key,z,clock⟩,es.push ⟨key,val,clock⟩,clock+1,?_,?_,fun u hu=>?_⟩
    · simp[Instr.mapEntry,run_underlying ht,MapKept.run_getObj_map hb,K.check w false hk,hf,hz,MapKept.run_setObj_map _ hb,Result.andThen,ChangeMaps.setBlock]
    · simp[Instr.mapUpdate,run_underlying ht,MapKept.run_getObj_map hb,K.check w false hk,hf,MapKept.run_setObj_map _ hb,Result.andThen,ChangeMaps.setBlock]
    · simp[Instr.entryStore,MapKept.run_getObj_map hu,asInt,asIntOf,goInt,hidx,hset,MapKept.run_setObj_map _ hu,Result.andThen,ChangeMaps.setBlock]
  · have hj:es[j]?=some e0:=by simpa using hat
    have hself:es.modify j (fun x=>{x with key:=key})=es:=by
      refine Array.ext (by simp) fun i h1 h2=>?_
      rw[Array.getElem_modify]
      split
      · next hji=>
        subst hji
        have:es[j]=e0:=by rw[Array.getElem?_eq_getElem h2] at hj;injection hj
        rw[this,←hkey]
      · rfl
    have hidx:es.findIdx? (fun x=>((x.born:Nat):Int)==((e0.born:Nat):Int))=some j:=by
      rw[WideElems.findIdx_arr]
      exact WideElems.findIdx_born hnd hat
    have hset:es.modify j (fun x=>{x with val:=val})=es.modify j (fun x=>{x with key:=key,val:=val}):=by
      refine Array.ext (by simp) fun i h1 h2=>?_
      rw[Array.getElem_modify,Array.getElem_modify]
      split
      · next hji=>
        subst hji
        have h3:j<es.size:=by simpa using h2
        have:es[j]=e0:=by rw[Array.getElem?_eq_getElem h3] at hj;injection hj
        rw[this,←hkey]
      · rfl
    refine ⟨e0.val,e0.born,es,es.modify j (fun x=>{x with key:=key,val:=val}),clock,?_,?_,fun u hu=>?_⟩
    · simp[Instr.mapEntry,run_underlying ht,MapKept.run_getObj_map hb,K.check w false hk,hf,hj,hkey,K.stays w hk,hself,MapKept.run_setObj_map _ hb,Result.andThen,ChangeMaps.setBlock]
    · simp[Instr.mapUpdate,run_underlying ht,MapKept.run_getObj_map hb,K.check w false hk,hf,hj,hkey,K.stays w hk,MapKept.run_setObj_map _ hb,Result.andThen,ChangeMaps.setBlock]
    · simp[Instr.entryStore,MapKept.run_getObj_map hu,asInt,asIntOf,goInt,hidx,hset,MapKept.run_setObj_map _ hu,Result.andThen,ChangeMaps.setBlock]
theorem z4P {w:World} {gt nn:Nat} {D:DataW Unit} (h:w.ownsMap Tryz.prog 3 q4W gt nn D) (hn:nn<maxLen) {n:Int} (hw:(Lit.int .i64 n).wf=true) (b:Nat):
    ∃ (v0:Value) (sn:Nat) (W1 W2:World),(Instr.mapEntry 129 (.map (some gt)) (.int .i64 n)).run Tryz.prog w= .ok (.tuple #[v0,.int .i64 (sn:Int)]) W1∧
      (Instr.entryStore 129 (.map (some gt)) (.int .i64 (sn:Int)) (.pointer (some ⟨b,0,none⟩))).run Tryz.prog W1= .ok () W2∧
      W2.ownsMap Tryz.prog 3 q4W gt (nn+1) (D.put (.int .i64 n) (.lit (.int .i64 b)))∧OffS (fun i=>i=gt) w W2:=by
  have h0:=h
  obtain ⟨es,clock,hb,F,hs,hD⟩:=h
  obtain ⟨v0,sn,es1,es2,c,h1,h2,h3⟩:=z0x (w:=w) Tryz.keyInt Tryz.underlying129 z9r hb F (keyOf_int_mk Tryz.underlying3 hw) (.pointer (some ⟨b,0,none⟩))
  obtain ⟨w',hr,hown,hg⟩:=h0.update Tryz.keyInt Tryz.underlying129 hn (keyOf_int_mk Tryz.underlying3 hw) (q8P b)
  rw[h2] at hr
  injection hr with _ hr
  subst hr
  have hs1:=ChangeMaps.heap_setBlock_same hb (.map es1 c)
  refine ⟨v0,sn,_,_,h1,h3 _ hs1,q1V hown ?_,⟨rfl,rfl,rfl,by simp[ChangeMaps.setBlock],fun i hi hn=>?_⟩⟩
  · rw[ChangeMaps.heap_setBlock_same hb,ChangeMaps.heap_setBlock_same hs1]
  · rw[ChangeMaps.heap_setBlock_other hs1 _ hn,ChangeMaps.heap_setBlock_other hb _ hn]
end Go.Proofs.YtmajfklnagdlpaaGreatDoor
namespace Go.Proofs.YtmajfklnagdlpaaGreatDoor
open Go.RowKit
abbrev Fls :=List UInt8→Option (List UInt8)
def q4s (φ:Fls) (nm t:List UInt8):Fls:=fun x=>if x=nm then some t else φ x
def q9d (φ:Fls) (nm:List UInt8):Fls:=fun x=>if x=nm then none else φ x
def Fl (σ:DM) (c s:Int) (φ:Fls) (u cnt:Nat):Prop:= ∃l,Pl σ c s l∧q2W Prod.fst l∧(∀nm,(q0E Prod.fst nm l).map Prod.snd=φ nm)∧q1K l≤u∧l.length≤cnt
section
variable {σ :DM} {c s:Int} {l:List (List UInt8×List UInt8)} {nm t a b:List UInt8} {x:List UInt8×List UInt8} {φ:Fls} {u cnt:Nat}
theorem Pl.delete (h:Pl σ c s l) (hf:q0E Prod.fst nm l=some x): ∃σ',q0O σ nm=(0,σ')∧Pl σ' c s (delN Prod.fst nm l):=by
  obtain ⟨f,h1,rfl⟩:=h.find_some hf
  refine ⟨{q1I σ with L:=delN FM.nm nm σ.L},?_,h.up,h.fine,?_,h.cap,h.st⟩
  · unfold q0O
    rw[if_neg (by rw[h.up];decide),h1,if_neg (by simp),if_neg (by rw[h.no];decide)]
  · rw[←h.files]
    exact q4h (k:=FM.nm) (k':=Prod.fst) q4n nm σ.L
theorem Pl.deleteN (h:Pl σ c s l) (hf:q0E Prod.fst nm l=none):q0O σ nm=(4,σ):=by
  unfold q0O
  rw[if_neg (by rw[h.up];decide),h.find_none hf,if_pos (by simp)]
theorem Pl.rename (h:Pl σ c s l) (hf:q0E Prod.fst a l=some x) (hb:q1l b=true) (hne:a≠b): ∃σ',q1H σ a b=(0,σ')∧Pl σ' c s (q1T Prod.fst (b,x.2) (delN Prod.fst a (delN Prod.fst b l))):=by
  obtain ⟨f,h1,rfl⟩:=h.find_some hf
  refine ⟨{q1I σ with L:=z2c a b f σ.L},?_,h.up,h.fine,?_,h.cap,h.st⟩
  · unfold q1H
    rw[if_neg (by rw[h.up];decide),h1]
    simp only
    rw[if_neg (by rw[hb];decide),if_neg (by rw[h.no];decide),if_neg hne]
  · rw[←h.files]
    show (z2c a b f σ.L).map fbF=_
    unfold z2c
    rw[q4Z (k:=FM.nm) (k':=Prod.fst) q4n,q4h (k:=FM.nm) (k':=Prod.fst) q4n,q4h (k:=FM.nm) (k':=Prod.fst) q4n]
    rfl
theorem q8Z (nm:List UInt8) (l:List (List UInt8×List UInt8)):q0E Prod.fst nm (delN Prod.fst nm l)=none:=q0S fun y hy=>(mem_delN.1 hy).2
theorem q7A {nm d:List UInt8} (l:List (List UInt8×List UInt8)) (hne:nm≠d):q0E Prod.fst nm (delN Prod.fst d l)=q0E Prod.fst nm l:=by
  unfold q0E delN
  rw[List.find?_filter]
  congr 1
  funext y
  by_cases hy:y.1=nm
  · have h1:(y.1==nm)=true:=by simpa using hy
    have h2:(y.1==d)=false:=by rw[hy];simpa using hne
    rw[h1,h2];rfl
  · have h1:(y.1==nm)=false:=by simpa using hy
    rw[h1];simp
theorem q9e (nm:List UInt8) (l:List (List UInt8×List UInt8)):q1K (delN Prod.fst nm l)≤q1K l:=by
  unfold q1K q4I delN
  induction l with
  |nil=>exact Nat.le_refl _
  | cons y r ih=>
    rw[List.filter_cons]
    split
    · simp only[List.map_cons,List.sum_cons];omega
    · simp only[List.map_cons,List.sum_cons];omega
theorem z4O (nm:List UInt8) (l:List (List UInt8×List UInt8)):(delN Prod.fst nm l).length≤l.length:=List.length_filter_le _ _
theorem Fl.find (hl: ∀nm,(q0E Prod.fst nm l).map Prod.snd=φ nm) (h:φ nm=some t):q0E Prod.fst nm l=some (nm,t):=by
  have h1:=hl nm
  rw[h] at h1
  cases hf:q0E Prod.fst nm l with
  |none=>rw[hf] at h1;cases h1
  | some y=>
    rw[hf] at h1
    have h2:=(q0H hf).2
    injection h1 with h1
    rw[←h1,←h2]
theorem Fl.noFind (hl: ∀nm,(q0E Prod.fst nm l).map Prod.snd=φ nm) (h:φ nm=none):q0E Prod.fst nm l=none:=by
  have h1:=hl nm
  rw[h] at h1
  cases hf:q0E Prod.fst nm l with
  |none=>rfl
  |some y=>rw[hf] at h1;cases h1
theorem Fl.put (hl: ∀nm,(q0E Prod.fst nm l).map Prod.snd=φ nm) (h:φ nm=none) (t:List UInt8): ∀x,(q0E Prod.fst x (q1T Prod.fst (nm,t) l)).map Prod.snd=q4s φ nm t x:=fun x=>by
  unfold q4s
  by_cases hx:x=nm
  · subst hx
    rw[if_pos rfl,q4d (k:=Prod.fst) (x:=(x,t)) (q0W (Fl.noFind hl h))]
    rfl
  · rw[if_neg hx,q2f (k:=Prod.fst) (x:=(nm,t)) (fun e=>hx e.symm)]
    exact hl x
theorem Fl.cut (hl: ∀nm,(q0E Prod.fst nm l).map Prod.snd=φ nm) (nm:List UInt8): ∀x,(q0E Prod.fst x (delN Prod.fst nm l)).map Prod.snd=q9d φ nm x:=fun x=>by
  unfold q9d
  by_cases hx:x=nm
  · subst hx;rw[if_pos rfl,q8Z];rfl
  · rw[if_neg hx,q7A l hx];exact hl x
theorem Fl.up (h:Fl σ c s φ u cnt):σ.down=false:=by obtain ⟨l,h1,_⟩:=h;exact h1.up
theorem Fl.mono (h:Fl σ c s φ u cnt) {u' cnt':Nat} (h1:u≤u') (h2:cnt≤cnt'):Fl σ c s φ u' cnt':=by
  obtain ⟨l,a1,a2,a3,a4,a5⟩:=h
  exact ⟨l,a1,a2,a3,by omega,by omega⟩
theorem Fl.tell (h:Fl σ c s φ u cnt):Fl (q3H σ) c s φ u cnt:=by
  obtain ⟨l,a1,a2,a3,a4,a5⟩:=h
  exact ⟨l,a1.tell,a2,a3,a4,a5⟩
theorem Fl.tells : ∀(k:Nat) {σ:DM},Fl σ c s φ u cnt→Fl (tellN k σ) c s φ u cnt
  |0,_,h=>h
  |k+1,σ,h=>by rw[q2Z];exact Fl.tells k h.tell
theorem Fl.del (h:Fl σ c s φ u cnt) (hf:φ nm=some t): ∃σ',q0O σ nm=(0,σ')∧Fl σ' c s (q9d φ nm) u cnt:=by
  obtain ⟨l,a1,a2,a3,a4,a5⟩:=h
  obtain ⟨σ',e,p⟩:=a1.delete (Fl.find a3 hf)
  exact ⟨σ',e,_,p,q1o a2,Fl.cut a3 nm,Nat.le_trans (q9e nm l) a4,Nat.le_trans (z4O nm l) a5⟩
theorem Fl.write (h:Fl σ c s φ u cnt) {n:Int} (hn:0≤n∧n≤999999) {L:List En} (hs:q1r L=true) {f:List UInt8} (h1:φ (q0B 116 n)=none) (h2:φ (q0B 98 n)=none) (hm:cnt<398)
    (hr:6000≤c-(u:Int)-((q2r L).length:Int)-(f.length:Int)): ∃σ',q0Y σ n L f=(0,σ')∧Fl σ' c s (q4s (q4s φ (q0B 98 n) f) (q0B 116 n) (q2r L)) (u+f.length+(q2r L).length) (cnt+2):=by
  obtain ⟨l,a1,a2,a3,a4,a5⟩:=h
  obtain ⟨σ',e,p⟩:=a1.write hn hs (f:=f) (Fl.noFind a3 h1) (Fl.noFind a3 h2) (by omega) (by omega)
  have h3:q4s φ (q0B 98 n) f (q0B 116 n)=none:=by unfold q4s;rw[if_neg (q4V n n hn hn)];exact h1
  have b3:=Fl.put a3 h2 f
  refine ⟨σ',e,_,p,q2v (q2v a2 (q0W (Fl.noFind a3 h2))) (q0W (Fl.noFind b3 h3)),Fl.put b3 h3 _,by rw[q3q,q3q];simp only;omega,by rw[q1w,q1w];omega⟩
theorem Fl.swap (h:Fl σ c s φ u cnt) {S:List UInt8} (h1:φ q1u=none) (hm:cnt<400) (hr:6000≤c-(u:Int)-(S.length:Int)): ∃σ',q1Z σ S 0=(0,σ')∧Fl σ' c s (q4s φ mapN S) (u+S.length) (cnt+1):=by
  obtain ⟨l,a1,a2,a3,a4,a5⟩:=h
  have hn:=Fl.noFind a3 h1
  have hg:q6P σ q1u=(0,σ):=by unfold q6P;rw[a1.deleteN hn];simp
  obtain ⟨σ1,e1,p1⟩:=a1.create hn (by decide) (by omega)
  have hx1:=q4d (k:=Prod.fst) (x:=(q1u,([]:List UInt8))) (q0W hn)
  obtain ⟨σ2,e2,p2⟩:=p1.append (t:=S) hx1 (by rw[q3q];simp only[List.length_nil];omega)
  rw[q8I (q0W hn)] at p2
  have hx2:=q4d (k:=Prod.fst) (x:=(q1u,S)) (q0W hn)
  obtain ⟨σ3,e3,p3⟩:=p2.sync hx2
  obtain ⟨σ4,e4,p4⟩:=p3.rename (b:=mapN) hx2 (by decide) new_ne_map
  have o1:q2W Prod.fst (q1T Prod.fst (q1u,S) l):=q2v a2 (q0W hn)
  have b3:=Fl.put a3 h1 S
  have b4:=Fl.cut (Fl.cut b3 mapN) q1u
  have hmn:q9d (q9d (q4s φ q1u S) mapN) q1u mapN=none:=by unfold q9d;rw[if_neg new_ne_map.symm,if_pos rfl]
  refine ⟨σ4,?_,_,p4,q2v (q1o (q1o o1)) (q0W (Fl.noFind b4 hmn)),fun x=>?_,?_,?_⟩
  · unfold q1Z
    rw[if_neg (fun h=>h rfl),if_neg (by rw[a1.up];decide),hg]
    unfold q2p
    simp only[if_true]
    unfold z7G
    rw[a1.free,if_neg (by omega),e1]
    unfold q2p
    simp only[if_true]
    rw[e2]
    simp only[if_true]
    rw[e3]
    simp only[if_true]
    rw[e4]
  · rw [Fl.put b4 hmn S x]
    unfold q4s q9d
    by_cases hx:x=mapN
    · simp[hx]
    · by_cases hx2:x=q1u
      · simp[hx2,h1,new_ne_map]
      · simp[hx,hx2]
  · have hx3:q0E Prod.fst q1u (delN Prod.fst mapN (q1T Prod.fst (q1u,S) l))=some (q1u,S):=by rw[q7A _ new_ne_map];exact hx2
    have h5:=q5q (fun x:List UInt8×List UInt8=>x.2.length) (q1o o1) hx3
    have h6:=q9e mapN (q1T Prod.fst (q1u,S) l)
    rw[q3q] at h6⊢
    unfold q1K at h6 a4⊢
    simp only at h5 h6⊢
    omega
  · have hx3:q0E Prod.fst q1u (delN Prod.fst mapN (q1T Prod.fst (q1u,S) l))=some (q1u,S):=by rw[q7A _ new_ne_map];exact hx2
    have h5:=q6l (q1o o1) hx3
    have h6:=z4O mapN (q1T Prod.fst (q1u,S) l)
    rw[q1w] at h6⊢
    show (delN Prod.fst q1u (delN Prod.fst mapN (q1T Prod.fst (q1u,S) l))).length+1≤cnt+1
    omega
theorem Fl.wl (h:Fl σ c s φ u cnt) {n:Int} {L:List En} (hf:φ (q0B 116 n)=some (q2r L)):Wl σ n L:=by
  obtain ⟨l,a1,a2,a3,a4,a5⟩:=h
  exact a1.wl (Fl.find a3 hf)
theorem Fl.drop (h:Fl σ c s φ u cnt) {n:Int} (hn:0≤n∧n≤999999) {x y:List UInt8} (h1:φ (q0B 116 n)=some x) (h2:φ (q0B 98 n)=some y): ∃σ',q2h σ n=(0,σ')∧Fl σ' c s (q9d (q9d φ (q0B 116 n)) (q0B 98 n)) u cnt:=by
  obtain ⟨σ1,e1,p1⟩:=h.del h1
  obtain ⟨σ2,e2,p2⟩:=p1.del (nm:=q0B 98 n) (t:=y) (by unfold q9d;rw[if_neg (q4V n n hn hn).symm];exact h2)
  refine ⟨σ2,?_,p2⟩
  unfold q2h
  rw[e1]
  simp only
  rw[if_pos (.inl rfl),e2,if_pos (.inl rfl)]
theorem Fl.exact (h:Fl σ c s φ u cnt): ∃u0,u0≤u∧Fl σ c s φ u0 cnt∧q3M σ=c-(u0:Int):=by
  obtain ⟨l,a1,a2,a3,a4,a5⟩:=h
  exact ⟨q1K l,a4,⟨l,a1,a2,a3,Nat.le_refl _,a5⟩,a1.free⟩
theorem Fl.delN (h:Fl σ c s φ u cnt) (hf:φ nm=none):q0O σ nm=(4,σ):=by
  obtain ⟨l,a1,a2,a3,a4,a5⟩:=h
  exact a1.deleteN (Fl.noFind a3 hf)
theorem Fl.turn (h:Fl σ c s φ u cnt) {m:Man} (hm:q0T m.nx m.ck m.L=true) {n:Int} (hn:0≤n∧n≤999999) {L:List En} (hs:q2R L) (hB:q1r L=true) (ho: ∀e∈L,q4p e=true) (hl:L.length≤50000) {f:List UInt8}
    (h1:φ (q0B 116 n)=none) (h2:φ (q0B 98 n)=none) (h3:φ q1u=none) (hcn:cnt<397):
    (∃ σ',q2P σ m n L f=(0,some L,σ')∧Fl σ' c s (q4s (q4s (q4s φ (q0B 98 n) f) (q0B 116 n) (q2r L)) mapN m.S) (u+f.length+(q2r L).length+300) (cnt+3))∨
      ∃σ',q2P σ m n L f=(60,none,σ')∧Fl σ' c s φ (u+f.length+(q2r L).length+300) (cnt+3)∧c-(u:Int)-((q2r L).length:Int)-(f.length:Int)-300<6000:=by
  have hS:=m.S_le
  have hmt:mapN≠q0B 116 n:=fun e=>by rw[q0P hn] at e;exact absurd (List.cons.inj e).1 (by decide)
  have hnt: ∀c':UInt8,c'=116∨c'=98→q1u≠q0B c' n:=fun c' hc e=>by
    rw[q0P hn] at e
    rcases hc with rfl|rfl
    · exact absurd (List.cons.inj e).1 (by decide)
    · exact absurd (List.cons.inj e).1 (by decide)
  obtain ⟨u0,q1,q2,q3⟩:=h.exact
  by_cases hr1:6000≤c-(u0:Int)-((q2r L).length:Int)-(f.length:Int)
  · obtain ⟨σ1,e1,p1⟩:=q2.write hn hB (f:=f) h1 h2 (by omega) hr1
    have hnew:q4s (q4s φ (q0B 98 n) f) (q0B 116 n) (q2r L) q1u=none:=by unfold q4s;rw[if_neg (hnt 116 (.inl rfl)),if_neg (hnt 98 (.inr rfl))];exact h3
    obtain ⟨u1,z1,z2,z3⟩:=p1.exact
    by_cases hr2:6000≤c-(u1:Int)-(m.S.length:Int)
    · obtain ⟨σ2,e2,p2⟩:=z2.swap (S:=m.S) hnew (by omega) hr2
      have hw:Wl σ2 n L:=p2.wl (by unfold q4s;rw[if_neg hmt.symm,if_pos rfl])
      obtain ⟨k,_,e3⟩:=z1q hw hs ho (by omega)
      refine .inl ⟨tellN k σ2,?_,(Fl.tells k p2).mono (by omega) (by omega)⟩
      unfold q2P
      rw[e1]
      simp only
      rw[if_neg (fun h=>h rfl),Man.E_valid hm,e2]
      simp only
      rw[if_neg (fun h=>h rfl),e3]
    · have e2:q1Z σ1 m.S 0=(60,σ1):=by
        unfold q1Z q6P
        rw[if_neg (fun h=>h rfl),if_neg (by rw[p1.up];decide),p1.delN hnew,if_pos rfl]
        unfold q2p z7G
        rw[if_pos rfl]
        simp only
        rw[z3,if_pos (by omega)]
      obtain ⟨σ2,e3,p2⟩:=p1.drop hn (x:=q2r L) (y:=f) (by unfold q4s;rw[if_pos rfl]) (by unfold q4s;rw[if_neg (q4V n n hn hn).symm,if_pos rfl])
      refine .inr ⟨σ2,?_,?_,by omega⟩
      · unfold q2P
        rw[e1]
        simp only
        rw[if_neg (fun h=>h rfl),Man.E_valid hm,e2]
        simp only
        rw[if_pos (by decide),e3]
      · have e4:q9d (q9d (q4s (q4s φ (q0B 98 n) f) (q0B 116 n) (q2r L)) (q0B 116 n)) (q0B 98 n)=φ:=by
          funext x
          unfold q9d q4s
          by_cases hx:x=q0B 98 n
          · rw[if_pos hx,hx,h2]
          · rw[if_neg hx]
            by_cases hx2:x=q0B 116 n
            · rw[if_pos hx2,hx2,h1]
            · rw[if_neg hx2,if_neg hx2,if_neg hx]
        rw[e4] at p2
        exact p2.mono (by omega) (by omega)
  · have e1:q0Y σ n L f=(60,σ):=by
      unfold q0Y
      rw[if_neg (fun e=>by rcases e with e|e;exact e hn;rw[hB] at e;cases e),if_neg (by rw[h.up];decide),q3,if_pos (by omega)]
    refine .inr ⟨σ,?_,h.mono (by omega) (by omega),by omega⟩
    unfold q2P
    rw[e1]
    simp only
    rw[if_pos (by decide)]
    unfold q2h
    rw[h.delN h1]
    simp only
    rw[if_pos (.inr (.inl rfl)),h.delN h2]
    simp only
    rw[if_pos (.inr (.inl rfl))]
end
end Go.Proofs.YtmajfklnagdlpaaGreatDoor
namespace Go.Proofs.YtmajfklnagdlpaaGreatDoor
open Go.RowKit Go.Maps
set_option maxRecDepth 100000
set_option linter.unusedVariables false
set_option maxHeartbeats 12800000
theorem q4v {P:Program} {id:Nat} {Q:Exit→Act→World→Prop} {a:Act} {w:World} {l:List Oper} (n:Nat) (hm:P.follows .mixedOrders=true) (hB:Region.lexTailB .any l.toArray n=true)
    (h:wpStill P l.toArray w.drew (fun a'=>wpList P l.toArray Q (l.drop n) a' w.drew) (l.take n) a):(Code.region id l.toArray true).wp P Q a w:=
  wp_region_still_tail n hm hB h
structure ManV (w:World) (m:Man) (v:Value) (vs:List Value) (V:Nat→Prop):Prop where
  lev:OGr w 0 80 3 v vs m.L
  inV: ∀i,(v.ownBlock=some i∨ ∃q,(vs.getD q (.slice none 0 0)).ownBlock=some i)→V i
theorem ManV.same {w w':World} {m:Man} {v:Value} {vs:List Value} {V:Nat→Prop} (h:ManV w m v vs V) (k:Stay V w w'):ManV w' m v vs V:=⟨q2S h.lev fun i hi=>k i (h.inV i hi),h.inV⟩
def IxSt.put (st:IxSt) (m:Man) (n:Int) (e:TE):IxSt:=⟨m,st.rate,st.w,fun x=>if x=n then some e else st.t x,st.c+1⟩
theorem IxSt.put_full {st:IxSt} {m:Man} {n:Int} {e:TE} (h:st.full) (hm: ∀x∈m.L.flatten,x=n∨x∈st.m.L.flatten):(st.put m n e).full:=fun x hx=>by
  unfold IxSt.put
  simp only
  by_cases hxn:x=n
  · exact ⟨e,by rw[if_pos hxn]⟩
  · rcases hm x hx with h1|h1
    · exact absurd h1 hxn
    · obtain ⟨e2,h2⟩:=h x h1
      exact ⟨e2,by rw[if_neg hxn];exact h2⟩
def z8z (wb w:World) (g gx:Nat) (st:IxSt) (m:Man) (n:Int) (K V:Nat→Prop) (r:Int×Option (List En)×DM) (w':World):Prop:=
  match r.2.1 with
  |none=>IxK wb w' g gx st r.2.2 K∧Stay K w w'
  |some L=> ∃b may,IxK wb w' g gx (st.put m n ⟨b,L,may⟩) r.2.2 K∧Stay K w w'
section
variable {wb w w1 w2:World} {g gx gm gt:Nat} {st st1:IxSt} {F Y Y1 K K' V:Nat→Prop} {σ σ1:DM}
structure TurnW (wb w W:World) (g gx:Nat) (st:IxSt) (m:Man) (v:Value) (vs:List Value) (K V:Nat→Prop) (p:Nat) (F:Nat→Prop) (σ:DM) (gm gt:Nat) (Y:Nat→Prop):Prop where
  i:IxF wb W g F σ gx gm gt st Y (fun i=>K i∨V i∨i=p)
  man:ManV W m v vs V
  box:Blk W p 45 #[.int .i64 m.nx,.int .i64 m.ck,.int .u64 m.sd,v]
  stay:Stay K w W
theorem TurnW.grow {W W1:World} {m:Man} {v:Value} {vs:List Value} {p:Nat} (h:TurnW wb w W g gx st m v vs K V p F σ gm gt Y) (k:Ext W W1):TurnW wb w W1 g gx st m v vs K V p F σ gm gt Y:=
  ⟨h.i.grow k,h.man.same fun i hi=>h.i.kExt k i (.inr (.inl hi)),h.box.ext k,h.stay.trans fun i hi=>h.i.kExt k i (.inl hi)⟩
theorem TurnW.disk {W W1:World} {m:Man} {v:Value} {vs:List Value} {p:Nat} (h:TurnW wb w W g gx st m v vs K V p F σ gm gt Y) (k:DkS W g F σ1 W1):TurnW wb w W1 g gx st m v vs K V p (Gr F W W1) σ1 gm gt Y:=by
  obtain ⟨h1,h2⟩:=h.i.disk k
  exact ⟨h1,h.man.same fun i hi=>h2 i (.inr (.inl hi)),h.box.same (h2 p (.inr (.inr rfl))),h.stay.trans fun i hi=>h2 i (.inl hi)⟩
theorem TurnW.ixi {W:World} {m:Man} {v:Value} {vs:List Value} {p:Nat} (h:TurnW wb w W g gx st m v vs K V p F σ gm gt Y): ∃v vs vm D nn,IxI W gx g gm gt st v vs vm D nn Y:=h.i.i.x.2
theorem TurnW.fin {W:World} {m:Man} {v:Value} {vs:List Value} {p:Nat} (h:TurnW wb w W g gx st m v vs K V p F σ gm gt Y):IxK wb W g gx st σ K∧Stay K w W:=⟨⟨_,_,_,_,h.i.beside fun i hi=> .inl hi⟩,h.stay⟩
theorem TurnW.cells {W:World} {m:Man} {v:Value} {vs:List Value} {p:Nat} (h:TurnW wb w W g gx st m v vs K V p F σ gm gt Y):
    W.cell? ⟨gx,0,none⟩=some (.pointer (some ⟨g,0,none⟩))∧W.cell? ⟨gx,5,none⟩=some (.float .f64 st.rate)∧
    W.cell? ⟨p,0,none⟩=some (.int .i64 m.nx)∧W.cell? ⟨p,1,none⟩=some (.int .i64 m.ck)∧W.cell? ⟨p,2,none⟩=some (.int .u64 m.sd)∧W.cell? ⟨p,3,none⟩=some v:=by
  obtain ⟨v',vs',vm,D,nn,hi⟩:=h.ixi
  exact ⟨hi.c0,hi.c5,h.box.cell 0,h.box.cell 1,h.box.cell 2,h.box.cell 3⟩
theorem IxI.putT {v v2:Value} {vs vs2:List Value} {vm:Value} {D:DataW Unit} {nn:Nat} (h:IxI w gx g gm gt st v vs vm D nn Y) {m:Man} (hm:ManV w m v2 vs2 V) {n:Int} {t:Nat} {L:List En} {may:Int→Bool} {T:Nat→Prop}
    (hO:w2.ownsMap Tryz.prog 3 q4W gt (nn+1) (D.put (.int .i64 n) (.lit (.int .i64 t))))
    (hF:OffS (fun i=>i=gt) ((((w.setCell ⟨gx,1,none⟩ (.int .i64 m.nx)).setCell ⟨gx,2,none⟩ (.int .i64 m.ck)).setCell ⟨gx,3,none⟩ (.int .u64 m.sd)).setCell ⟨gx,4,none⟩ v2).drew w2)
    (htb:Tb w t g n L may T) (hV: ∀i,V i→i<w.heap.size∧¬InX gx gm gt i) (hT: ∀i,T i→¬InX gx gm gt i):
    IxI w2 gx g gm gt (st.put m n ⟨t,L,may⟩) v2 vs2 vm (D.put (.int .i64 n) (.lit (.int .i64 t))) (nn+1) (fun i=>Y i∨V i∨T i)∧OffS (InX gx gm gt) w w2:=by
  have hoff:OffS (InX gx gm gt) w w2:=((((OffS.set (F:=InX gx gm gt) w (.inl rfl) 1 (.int .i64 m.nx)).trans (OffS.set _ (.inl rfl) 2 (.int .i64 m.ck))).trans (OffS.set _ (.inl rfl) 3 (.int .u64 m.sd))).trans (OffS.set _ (.inl rfl) 4 v2)).trans ((OffS.of_ext (Ext.refl _).drew).trans (hF.mono fun i _ hi=> .inr (.inr hi)))
  have hY: ∀i,i<w.heap.size→¬InX gx gm gt i→w2.heap[i]?=w.heap[i]?:=fun i hi hx=>hoff.block i hi hx
  have hgm:w2.heap[gm]?=w.heap[gm]?:=by
    rw[hF.block gm (Nat.lt_of_lt_of_le h.mem.blk.lt (by simp[World.setCell,World.drew,-World.drew_eq])) h.ne.2.2]
    show (((((w.setCell ⟨gx,1,none⟩ (.int .i64 m.nx)).setCell ⟨gx,2,none⟩ (.int .i64 m.ck)).setCell ⟨gx,3,none⟩ (.int .u64 m.sd)).setCell ⟨gx,4,none⟩ v2)).heap[gm]?=_
    rw[Below.heap_setCell _ _ _ _ h.ne.1.symm,Below.heap_setCell _ _ _ _ h.ne.1.symm,Below.heap_setCell _ _ _ _ h.ne.1.symm,Below.heap_setCell _ _ _ _ h.ne.1.symm]
  have hblk:Blk w2 gx 131 #[.pointer (some ⟨g,0,none⟩),.int .i64 m.nx,.int .i64 m.ck,.int .u64 m.sd,v2,.float .f64 st.rate,.pointer (some ⟨gm,0,none⟩),.map (some gt)]:=by
    have h1:=(((h.blk.set 1 (.int .i64 m.nx)).set 2 (.int .i64 m.ck)).set 3 (.int .u64 m.sd)).set 4 v2
    exact (Blk.drew h1).same (hF.block gx (Blk.drew h1).lt h.ne.2.1)
  have hYl: ∀i,(Y i∨V i∨T i)→i<w.heap.size∧¬InX gx gm gt i:=fun i hi=>by
    rcases hi with hi|hi|hi
    · exact ⟨h.lt i hi,h.apart i hi⟩
    · exact hV i hi
    · exact ⟨htb.lt i hi,hT i hi⟩
  refine ⟨⟨hblk,?_,q2S hm.lev fun i hi=>hY i (hV i (hm.inV i hi)).1 (hV i (hm.inV i hi)).2,hO,Nat.succ_le_succ h.cnt,fun x=>?_,fun x e hx=>?_,fun i hi=>?_,fun i hi=>Nat.lt_of_lt_of_le (hYl i hi).1 hoff.size,fun i hi=>(hYl i hi).2,h.ne⟩,hoff⟩
  · refine h.mem.same fun i hi=>?_
    rcases hi with rfl|hi
    · exact hgm
    · have hyi:=h.inY i (.inr (.inr hi))
      exact hY i (h.lt i hyi) (h.apart i hyi)
  · exact z1m (e:=⟨t,L,may⟩) h.look h.map.isMap x
  · unfold IxSt.put at hx
    simp only at hx
    by_cases hxn:x=n
    · rw[if_pos hxn] at hx
      injection hx with hx
      subst hx
      subst hxn
      exact (htb.same hoff.size fun i hi=>hY i (htb.lt i hi) (hT i hi)).mono (fun i hi=> .inr (.inr hi)) fun i hi=>Nat.lt_of_lt_of_le (hYl i hi).1 hoff.size
    · rw[if_neg hxn] at hx
      exact ((h.tab x e hx).same hoff.size fun i hi=>hY i (h.lt i hi) (h.apart i hi)).mono (fun i hi=> .inl hi) fun i hi=>Nat.lt_of_lt_of_le (hYl i hi).1 hoff.size
  · rcases hi with hi|hi|hi
    · exact .inr (.inl (hm.inV i (.inl hi)))
    · exact .inr (.inl (hm.inV i (.inr hi)))
    · exact .inl (h.inY i (.inr (.inr hi)))
theorem z8x (h:IxF wb w g F σ gx gm gt st Y (fun i=>K i∨V i)) {m:Man} {v:Value} {vs:List Value} (hv:ManV w m v vs V) (hKV: ∀i,V i→wb.heap.size≤i∧¬K i) {n:Int} (hn:0≤n∧n≤1000000)
    {ao:Option Addr} {k cap:Nat} {l:List En} (hx:Ens w ao k cap l) (hk:k≤1000) (hok: ∀e∈l,q4p e=true)
    (hwf: ∀x∈m.L.flatten,(Lit.int .i64 x).wf=true) (hsum:m.L.flatten.length≤1000) (hs0:0≤m.sd) (hs1:m.sd<18446744073709551616) (hc:st.c<1000000):
    Calls Tryz.prog 68 #[.pointer (some ⟨gx,0,none⟩),.agg #[.int .i64 m.nx,.int .i64 m.ck,.int .u64 m.sd,v],.int .i64 n,.slice ao k cap] w fun e w'=>
      ∃f:List UInt8,128≤f.length∧f.length≤64*(l.length/20+2)∧e= .returned (.int .i64 (q2P σ m n l f).1)∧z8z wb w g gx st m n K V (q2P σ m n l f) w':=by
  obtain ⟨av,kv,rfl,hgr0⟩:=hv.lev.grid
  have hx1:=q0C w (.cells #[.int .i64 m.nx,.int .i64 m.ck,.int .u64 m.sd,.slice av m.L.length kv] 45)
  have hlt: ∀i,V i→i<w.heap.size:=fun i hi=>(h.k i (.inr hi)).1
  have HT1:Hid (TurnW wb w (w.alloc (.cells #[.int .i64 m.nx,.int .i64 m.ck,.int .u64 m.sd,.slice av m.L.length kv] 45)) g gx st m (.slice av m.L.length kv) vs K V w.heap.size F σ gm gt Y):=Lib.hid
    ⟨h.more hx1 (fun i hi=>by
      rcases hi with hi|hi|hi
      · exact .inl (.inl hi)
      · exact .inl (.inr hi)
      · exact .inr ⟨by omega,by rw[World.size_alloc];omega⟩),hv.same (fun i hi=>hx1.block i (hlt i hi)),Blk.new _ _ _,fun i hi=>hx1.block i (h.k i (.inl hi)).1⟩
  have HEns:=Lib.hid (fun W (k:Ext w W)=>hx.ext k)
  have HX1:=Lib.hid hx1
  have HWf:=Lib.hid hwf
  clear h hv hx hx1 hgr0 hlt
  go_enter Tryz.func68,Tryz.ntmps68
  go_wp2_with fail
  obtain ⟨w1,hw1⟩: ∃w1,w.alloc (.cells #[.int .i64 m.nx,.int .i64 m.ck,.int .u64 m.sd,.slice av m.L.length kv] 45)=w1:=⟨_,rfl⟩
  obtain ⟨p,hp⟩: ∃p,w.heap.size=p:=⟨_,rfl⟩
  rw[hw1,hp] at HT1
  rw[hw1] at HX1
  simp only[hw1,hp]
  clear hw1 hp
  obtain ⟨d0,d5,p0,p1,p2,p3⟩:=HT1.out.cells
  refine q4v 10 (by kernel_rfl) (by kernel_rfl) ?_
  simp only[List.take_succ_cons,List.take_zero,List.drop_succ_cons,List.drop_zero]
  repeat still_step
  refine wpStill_nil ?_
  go_wp2_with fail
  have HT1d:=Lib.hid (HT1.out.grow (Ext.refl w1).drew)
  refine (z5O HT1d.out.i.i.d n st.rate (HEns.out _ HX1.out.drew) hk hok).mono ?_
  rintro e w2 ⟨f,f1,f2,rfl,hd⟩
  have HT2:=Lib.hid (HT1d.out.disk hd)
  have HM:Hid (q2P σ m n l f=if (q0Y σ n l f).1≠0 then ((q0Y σ n l f).1,none,(q2h (q0Y σ n l f).2 n).2)
    else if (q1Z (q0Y σ n l f).2 m.S m.E).1≠0 then ((q1Z (q0Y σ n l f).2 m.S m.E).1,none,(q2h (q1Z (q0Y σ n l f).2 m.S m.E).2 n).2)
    else match q3s (q1Z (q0Y σ n l f).2 m.S m.E).2 n with
    |(none,e,τ)=>(e,none,τ)
    |(some L,_,τ)=>(0,some L,τ)):=Lib.hid rfl
  obtain ⟨r1,hr1⟩: ∃r1,q0Y σ n l f=r1:=⟨_,rfl⟩
  rw[hr1] at HM HT2
  rw[hr1]
  obtain ⟨c1,σ1⟩:=r1
  simp only at HM HT2
  simp only
  clear hd hr1 d0 d5 p0 p1 p2 p3 HT1d HEns
  by_cases h1:c1=0
  case neg=>
    have HE:Hid (q2P σ m n l f=(c1,none,(q2h σ1 n).2)):=Lib.hid (by rw[HM.out,if_pos h1])
    have g1:(c1==0)=false:=by simpa using h1
    have g2:(c1 !=0)=true:=by simpa using h1
    clear HM h1
    obtain ⟨d0,d5,p0,p1,p2,p3⟩:=HT2.out.cells
    have HD:=Lib.hid (z5F HT2.out.i.i.d n)
    go_wp2_with fail
    refine HD.out.mono ?_
    rintro e w9 ⟨rfl,hd9⟩
    have HT9:=Lib.hid (HT2.out.disk hd9)
    clear hd9 HD
    go_wp2_with fail
    go_ret
    refine ⟨f,f1,f2,by rw[HE.out];rfl,?_⟩
    rw[HE.out]
    exact HT9.out.fin
  case pos=>
  subst h1
  obtain ⟨d0,d5,p0,p1,p2,p3⟩:=HT2.out.cells
  have HM2:=HM.out
  rw[if_neg (fun h=>h rfl)] at HM2
  have HM3:=Lib.hid HM2
  have HTd:=Lib.hid (HT2.out.grow (Ext.refl w2).drew)
  clear HM HM2
  go_wp2_with fail
  refine q4v 5 (by kernel_rfl) (by kernel_rfl) ?_
  simp only[List.take_succ_cons,List.take_zero,List.drop_succ_cons,List.drop_zero]
  repeat still_step
  refine wpStill_nil ?_
  go_wp2_with fail
  obtain ⟨_,_,e0,hgrid⟩:=HTd.out.man.lev.grid
  cases e0
  refine (z8d HTd.out.i.i.d hgrid (by omega) HWf.out hs0 hs1 (S:=m.S) (E:=m.E) rfl ?_).mono ?_
  · have:=m.S_le;omega
  rintro e w3 ⟨rfl,hd3⟩
  have HT3:=Lib.hid (HTd.out.disk hd3)
  obtain ⟨r2,hr2⟩: ∃r2,q1Z σ1 m.S m.E=r2:=⟨_,rfl⟩
  rw[hr2] at HM3 HT3
  rw[hr2]
  obtain ⟨c2,σ2⟩:=r2
  simp only at HM3 HT3
  simp only
  have HEz:Hid (c2=0→m.E=0):=Lib.hid fun h=>z7a (h▸hr2)
  clear hr2 hd3 d0 d5 p0 p1 p2 p3 HTd hgrid
  by_cases h2:c2=0
  case neg=>
    have HE:Hid (q2P σ m n l f=(c2,none,(q2h σ2 n).2)):=Lib.hid (by rw[HM3.out,if_pos h2])
    have g2:(c2 !=0)=true:=by simpa using h2
    clear HM3 h2
    obtain ⟨d0,d5,p0,p1,p2,p3⟩:=HT3.out.cells
    have HD:=Lib.hid (z5F HT3.out.i.i.d n)
    go_wp2_with fail
    refine HD.out.mono ?_
    rintro e w9 ⟨rfl,hd9⟩
    have HT9:=Lib.hid (HT3.out.disk hd9)
    clear hd9 HD
    go_wp2_with fail
    go_ret
    refine ⟨f,f1,f2,by rw[HE.out];rfl,?_⟩
    rw[HE.out]
    exact HT9.out.fin
  case pos=>
  subst h2
  have HM4:=HM3.out
  rw[if_neg (fun h=>h rfl)] at HM4
  obtain ⟨d0,d5,p0,p1,p2,p3⟩:=HT3.out.cells
  have HO:=Lib.hid (z4b HT3.out.i.i.d n)
  obtain ⟨r3,hr3⟩: ∃r3,q3s σ2 n=r3:=⟨_,rfl⟩
  rw[hr3] at HM4 HO
  obtain ⟨o,c3,σ3⟩:=r3
  have HE2:=Lib.hid HM4
  clear HM3 HM4
  cases o with
  | none=>
    have HE:Hid (q2P σ m n l f=(c3,none,σ3)):=HE2
    have g2:(c3 !=0)=true:=by simpa using q8V hr3
    clear hr3 HE2
    go_wp2_with fail
    refine HO.out.mono ?_
    rintro e w4 ⟨rfl,hd4⟩
    have HT4:=Lib.hid (HT3.out.disk hd4)
    clear hd4
    go_wp2_with fail
    go_ret
    refine ⟨f,f1,f2,by rw[HE.out];rfl,?_⟩
    rw[HE.out]
    exact HT4.out.fin
  | some L=>
    have HE:Hid (q2P σ m n l f=(0,some L,σ3)):=HE2
    obtain rfl:=q7X hr3
    clear hr3 HE2
    go_wp2_with fail
    refine HO.out.mono ?_
    rintro e w5 ⟨t,may,T,w4,rfl,hd4,hx4,htb,hT⟩
    have HT4:=Lib.hid ((HT3.out.disk hd4).grow hx4)
    have HTb:=Lib.hid htb
    have HTl:Hid (∀i,T i→w4.heap.size≤i):=Lib.hid hT
    have HKl:Hid (∀i,(K i∨V i∨i=p)→i<w4.heap.size):=Lib.hid fun i hi=>((HT3.out.disk hd4).i.k i hi).1
    have HFl:=Lib.hid (HT3.out.disk hd4).i.i.d.Flt
    have HXl:=Lib.hid (HT3.out.disk hd4).i.i.x.xlt
    have HWb:=Lib.hid (HT3.out.disk hd4).i.ext.size
    clear hd4 hx4 htb hT HO d0 d5 p0 p1 p2 p3
    go_wp2_with fail
    obtain ⟨v',vs',vm,D,nn,hi⟩:=HT4.out.ixi
    obtain ⟨d0,d5,p0,p1,p2,p3⟩:=HT4.out.cells
    have hnw:(Lit.int .i64 n).wf=true:=WalkArith.wf_i64 (by omega)
    have x1:=hi.c1;have x2:=hi.c2;have x3:=hi.c3;have x4:=hi.c4;have x7:=hi.c7
    have z1:w5.frozen? ⟨gx,1,none⟩=false:=hi.blk.free 1
    have z2:w5.frozen? ⟨gx,2,none⟩=false:=hi.blk.free 2
    have z3:w5.frozen? ⟨gx,3,none⟩=false:=hi.blk.free 3
    have z4:w5.frozen? ⟨gx,4,none⟩=false:=hi.blk.free 4
    obtain ⟨a',k',hv'⟩:=hi.lev.own.slice
    subst hv'
    have hcc:=HT4.out.i.i.x.1.c
    have hcn:=hi.cnt
    obtain ⟨v0,sn,W1,W2,hE,hS,hO,hF⟩:=z4P (w:=((((w5.setCell ⟨gx,1,none⟩ (.int .i64 m.nx)).setCell ⟨gx,2,none⟩ (.int .i64 m.ck)).setCell ⟨gx,3,none⟩ (.int .u64 m.sd)).setCell ⟨gx,4,none⟩ (.slice av m.L.length kv)).drew) (q1V hi.map (by
      show (((((w5.setCell ⟨gx,1,none⟩ (.int .i64 m.nx)).setCell ⟨gx,2,none⟩ (.int .i64 m.ck)).setCell ⟨gx,3,none⟩ (.int .u64 m.sd)).setCell ⟨gx,4,none⟩ (.slice av m.L.length kv))).heap[gt]?=_
      rw[Below.heap_setCell _ _ _ _ hi.ne.2.1.symm,Below.heap_setCell _ _ _ _ hi.ne.2.1.symm,Below.heap_setCell _ _ _ _ hi.ne.2.1.symm,Below.heap_setCell _ _ _ _ hi.ne.2.1.symm])) (by unfold maxLen;omega) hnw t
    have HI:=Lib.hid hi;have HO':=Lib.hid hO;have HF':=Lib.hid hF
    clear hi hO hF
    go_region
    go_wp2_with fail
    go_ret
    refine ⟨f,f1,f2,by rw[HE.out];rfl,?_⟩
    rw[HE.out]
    obtain ⟨hix,hoff⟩:=HI.out.putT HT4.out.man HO'.out HF'.out HTb.out (fun i hi=>⟨(HT4.out.i.k i (.inr (.inl hi))).1,(HT4.out.i.k i (.inr (.inl hi))).2.2.1⟩) (fun i hi hx=>by have:=HTl.out i hi;have:=HXl.out i hx;omega)
    have hok1:=HT4.out.i.i.x.1
    have hix2:IxY W2 gx g gm gt (st.put m n ⟨t,L,may⟩) (fun i=>Y i∨V i∨T i):=⟨⟨⟨Man.E_ok (HEz.out (by trivial)),hs0,hs1⟩,hok1.mem,Nat.succ_le_of_lt hc⟩,_,_,_,_,_,hix⟩
    · obtain ⟨q1,q2⟩:=HT4.out.i.turnV hix2 hoff (K:=K) (fun i hi=>by
        rcases hi with hi|hi|hi
        · exact ⟨HT4.out.i.bY i hi,fun hf=>(HT4.out.i.i.ap i hf).2 hi⟩
        · exact ⟨(hKV i hi).1,(HT4.out.i.k i (.inr (.inl hi))).2.1⟩
        · exact ⟨by have:=HTl.out i hi;have:=HWb.out;omega,fun hf=>by have:=HTl.out i hi;have:=HFl.out i hf;omega⟩) (fun i hi=>⟨.inl hi,fun hy=>by
        rcases hy with hy|hy|hy
        · exact (HT4.out.i.k i (.inl hi)).2.2.2 hy
        · exact (hKV i hy).2 hi
        · have:=HTl.out i hy;have:=HKl.out i (.inl hi);omega⟩)
      exact ⟨t,may,⟨_,_,_,_,q1⟩,HT4.out.stay.trans q2⟩
end
end Go.Proofs.YtmajfklnagdlpaaGreatDoor
namespace Go.Proofs.YtmajfklnagdlpaaGreatDoor
open Go.RowKit Go.Maps
set_option maxRecDepth 100000
set_option linter.unusedVariables false
set_option maxHeartbeats 12800000
def Man.add (m:Man) (L2:List (List Int)) (e:Int):Man:=⟨m.nx+1,e,m.sd,L2⟩
def q9W (wb w:World) (g gx:Nat) (st:IxSt) (σ:DM) (en:Int) (K:Nat→Prop) (r:Ending) (w':World):Prop:=
  (st.w=[]∧r= .returned (.int .i64 0)∧IxK wb w' g gx st σ K∧Stay K w w')∨
  (st.w≠[]∧(addS st.m.L st.m.nx).2≠0∧r= .returned (.int .i64 (addS st.m.L st.m.nx).2)∧IxK wb w' g gx st σ K∧Stay K w w')∨
  (st.w≠[]∧(addS st.m.L st.m.nx).2=0∧ ∃f:List UInt8,128≤f.length∧f.length≤64*(st.w.length/20+2)∧r= .returned (.int .i64 (q2P σ (st.m.add (addS st.m.L st.m.nx).1 en) st.m.nx st.w f).1)∧
    match (q2P σ (st.m.add (addS st.m.L st.m.nx).1 en) st.m.nx st.w f).2.1 with
    |none=>IxK wb w' g gx st (q2P σ (st.m.add (addS st.m.L st.m.nx).1 en) st.m.nx st.w f).2.2 K∧Stay K w w'
    |some L=> ∃b may,IxK wb w' g gx {st.put (st.m.add (addS st.m.L st.m.nx).1 en) st.m.nx ⟨b,L,may⟩ with w:=[]} (q2P σ (st.m.add (addS st.m.L st.m.nx).1 en) st.m.nx st.w f).2.2 K∧Stay K w w')
theorem z1M {L:List (List Int)} {x:Int} (h:(addS L x).2=0):¬x∈L.flatten∧L.length≤5∧(addS L x).1=q4G L x∧(∀y,y∈(addS L x).1.flatten↔y∈L.flatten∨y=x)∧(addS L x).1.flatten.length≤41:=by
  by_cases h1:q0i L=false∨x<0∨x∈L.flatten
  · rw[z1S L x h1] at h;cases h
  by_cases h2:40≤L.flatten.length
  · rw[q8o L x h1 h2] at h;cases h
  have hv:L.length≤5:=by
    have hv:q0i L=true:=by
      cases hv:q0i L with
      |true=>rfl
      |false=>exact absurd (.inl hv) h1
    unfold q0i at hv
    simp only[decide_eq_true_eq] at hv
    exact hv.1
  rw[z3e L x h1 h2]
  have hp:=q9K L x hv
  refine ⟨fun hx=>h1 (.inr (.inr hx)),hv,rfl,fun y=>?_,?_⟩
  · rw[hp.mem_iff,List.mem_append,List.mem_singleton]
  · have:=hp.length_eq
    rw[List.length_append,List.length_singleton] at this
    show (q4G L x).flatten.length≤41
    omega
section
variable {wb w w1 w2:World} {g gx gm gt:Nat} {st st1:IxSt} {F Y Y1 K K' V:Nat→Prop} {σ σ1:DM}
theorem IxK.clear (h:IxK wb w g gx st σ K) {f:FuncId} {P:Program} {args:Nat→Array Value} (hc: ∀m v L,MemI w m v L→Calls P f (args m) w fun r w'=>r= .returned (.tuple #[])∧MemI w' m (.slice none 0 0) []∧OffS (fun i=>i=m) w w'):
    ∃m,w.cell? ⟨gx,6,none⟩=some (.pointer (some ⟨m,0,none⟩))∧Calls P f (args m) w fun r w'=>r= .returned (.tuple #[])∧IxK wb w' g gx {st with w:=[]} σ K∧Stay K w w':=by
  obtain ⟨F,gm,gt,Y,h1⟩:=h
  obtain ⟨hok,v,vs,vm,D,nn,hi⟩:=h1.i.x
  refine ⟨gm,hi.c6,(hc _ _ _ hi.mem).mono ?_⟩
  rintro r w' ⟨rfl,hm,hoff⟩
  have hx:IxY w' gx g gm gt {st with w:=[]} (fun i=>Y i∨(Value.slice none 0 0).ownBlock=some i):=⟨⟨hok.man,okM.nil,hok.c⟩,v,vs,_,D,nn,hi.memTurn hm hoff (.inr fun i hi=>by cases hi)⟩
  obtain ⟨q1,q2⟩:=h1.turn hx (hoff.mono fun i _ hi=> .inr (.inl hi)) (fun i hi=>by
    rcases hi with hi|hi
    · exact .inl hi
    · cases hi)
  exact ⟨rfl,⟨_,_,_,_,q1⟩,q2⟩
theorem z3w (h0:IxY w gx g gm gt st Y) {gl:Nat} {en:Int} {P:DM→World→Prop}
    (hfl:Calls Tryz.prog 64 #[.pointer (some ⟨gl,0,none⟩)] w fun e w1=>e= .returned (.int .i64 0)∧ ∃σ,IxK wb w1 g gx st σ K∧P σ w1)
    (hend: ∀σ w1 W,P σ w1→Ext w1 W→Calls Tryz.prog 50 #[.pointer (some ⟨gl,0,none⟩)] W fun e w'=>e= .returned (.int .i64 en)∧W=w')
    (hw:st.w.length≤1000) (hc:st.c<1000000):
    Calls Tryz.prog 15 #[.pointer (some ⟨gx,0,none⟩),.pointer (some ⟨gl,0,none⟩)] w fun e w'=> ∃σ w1,P σ w1∧q9W wb w1 g gx st σ en K e w':=by
  have HN:=Lib.hid (q7x h0)
  have HFl:=Lib.hid hfl;have HEn:=Lib.hid hend
  clear h0 hfl hend
  go_enter Tryz.func15,Tryz.ntmps15
  go_wp2_with fail
  refine HN.out.mono ?_
  rintro e w1 ⟨rfl,rfl⟩
  go_wp2_with fail
  refine HFl.out.mono ?_
  rintro e w1 ⟨rfl,σ,hk,hp⟩
  have HP:=Lib.hid hp;have HK:=Lib.hid hk
  obtain ⟨F1,gm1,gt1,Y1,h1⟩:=hk
  have H1:=Lib.hid h1
  have hix:=h1.i.x
  obtain ⟨hok,v,vs,vm,D,nn,hi⟩:=hix
  have HL:=Lib.hid (z6h hi.mem)
  have c6:=hi.c6
  have HI:=Lib.hid hi
  have HOk:=Lib.hid hok
  clear hp h1 hi hok HN HFl
  by_cases h2:st.w=[]
  · have g1:((st.w.length:Int)==0)=true:=by rw[h2];rfl
    have HE:Hid (q9W wb w1 g gx st σ en K (.returned (.int .i64 0)) w1):=Lib.hid (.inl ⟨h2,rfl,HK.out,Stay.refl _ _⟩)
    clear h2
    go_wp2_with fail
    refine HL.out.mono ?_
    rintro e w2 ⟨rfl,rfl⟩
    go_wp2_with fail
    go_ret
    exact ⟨_,_,HP.out,HE.out⟩
  · have g1:((st.w.length:Int)==0)=false:=by
      have:0<st.w.length:=Nat.pos_of_ne_zero fun h=>h2 (List.eq_nil_of_length_eq_zero h)
      rw[beq_eq_false_iff_ne];omega
    obtain ⟨av,kv,rfl,hgr⟩:=HI.out.grid
    have hbd:=Man.bounds HOk.out.man
    have c1:=HI.out.c1;have c2:=HI.out.c2;have c3:=HI.out.c3;have c4:=HI.out.c4
    have HCp:=Lib.hid (q8F st.m.nx st.m.ck st.m.sd av st.m.L.length kv st.m.L w1 hgr (fun i=>by have:=hbd.2.2.1 i;omega) (by omega))
    have HBd:=Lib.hid hbd
    have HNe:=Lib.hid h2
    clear hgr hbd h2
    go_wp2_with fail
    refine HL.out.mono ?_
    rintro e w2 ⟨rfl,rfl⟩
    go_wp2_with fail
    refine HCp.out.mono ?_
    rintro e w2 ⟨v2,vs2,rfl,hog,hb⟩
    have HX2:=Lib.hid hb
    have HOg:=Lib.hid hog
    obtain ⟨a2,k2,rfl,hgr2⟩:=hog.grid
    have HAd:=Lib.hid (fun W (k:Ext w2 W)=>z9m a2 st.m.L.length k2 st.m.L st.m.nx W (hgr2.ext k) (by have:=HBd.out.2.1;omega) (by have:=HBd.out.1;omega) (fun x hx=>(HBd.out.2.2.2.1 x hx).1))
    clear hb hog hgr2 HCp HL
    go_wp2_with fail
    have HB2:Hid (Blk (w2.alloc (.cells #[.int .i64 st.m.nx,.int .i64 st.m.ck,.int .u64 st.m.sd,.slice a2 st.m.L.length k2] 45)) w2.heap.size 45 #[.int .i64 st.m.nx,.int .i64 st.m.ck,.int .u64 st.m.sd,.slice a2 st.m.L.length k2]):=Lib.hid (Blk.new _ _ _)
    have HXB:=Lib.hid (q0C w2 (.cells #[.int .i64 st.m.nx,.int .i64 st.m.ck,.int .u64 st.m.sd,.slice a2 st.m.L.length k2] 45))
    have HSB:Hid ((w2.alloc (.cells #[.int .i64 st.m.nx,.int .i64 st.m.ck,.int .u64 st.m.sd,.slice a2 st.m.L.length k2] 45)).heap.size=w2.heap.size+1):=Lib.hid (World.size_alloc _ _)
    obtain ⟨wB,hwB⟩: ∃wB,w2.alloc (.cells #[.int .i64 st.m.nx,.int .i64 st.m.ck,.int .u64 st.m.sd,.slice a2 st.m.L.length k2] 45)=wB:=⟨_,rfl⟩
    obtain ⟨q6,hq6⟩: ∃q6,w2.heap.size=q6:=⟨_,rfl⟩
    have HQ6:=Lib.hid hq6
    rw[hwB] at HB2 HXB HSB
    rw[hq6] at HB2 HSB
    simp only[hwB,hq6]
    clear hwB hq6
    refine (HAd.out _ HXB.out).mono ?_
    rintro e w3 ⟨v3,vs3,rfl,hog3,hb3⟩
    obtain ⟨a3,k3,rfl,hgr3⟩:=hog3.grid
    have HX3:=Lib.hid ((HX2.out.trans HXB.out).trans hb3)
    have HB3:=Lib.hid (HB2.out.ext hb3)
    have HOg3:=Lib.hid hog3
    obtain ⟨r,hr⟩: ∃r,addS st.m.L st.m.nx=r:=⟨_,rfl⟩
    have HR:=Lib.hid hr
    rw[hr] at HOg3
    rw[hr]
    obtain ⟨L2,er⟩:=r
    simp only at HOg3
    simp only
    clear hog3 hgr3 hb3 hr HAd c1 c2 c3 c4
    by_cases her:er=0
    case neg=>
      have g2:(er !=0)=true:=by simpa using her
      have HE:Hid (q9W wb w1 g gx st σ en K (.returned (.int .i64 er)) w3):=Lib.hid (.inr (.inl ⟨HNe.out,by rw[HR.out];exact her,by rw[HR.out],HK.out.grow HX3.out,HK.out.kExt HX3.out⟩))
      clear her
      go_wp2_with fail
      go_ret
      exact ⟨_,_,HP.out,HE.out⟩
    case pos=>
    subst her
    have HEd:=Lib.hid (HEn.out _ w1 w3 HP.out HX3.out)
    have b0:w3.cell? ⟨q6,0,none⟩=some (.int .i64 st.m.nx):=HB3.out.cell 0
    have b1:w3.cell? ⟨q6,1,none⟩=some (.int .i64 st.m.ck):=HB3.out.cell 1
    have b2:w3.cell? ⟨q6,2,none⟩=some (.int .u64 st.m.sd):=HB3.out.cell 2
    have b3:w3.cell? ⟨q6,3,none⟩=some (.slice a2 st.m.L.length k2):=HB3.out.cell 3
    have f0:w3.frozen? ⟨q6,0,none⟩=false:=HB3.out.free 0
    have f1:w3.frozen? ⟨q6,1,none⟩=false:=HB3.out.free 1
    have f3:w3.frozen? ⟨q6,3,none⟩=false:=HB3.out.free 3
    have q1:IntKind.i64.wrap (st.m.nx+1)=st.m.nx+1:=by have:=HBd.out.2.2.2.2;rw[IntKind.wrap_i64];omega
    go_wp2_with fail
    refine HEd.out.mono ?_
    rintro e w4 ⟨rfl,rfl⟩
    go_wp2_with fail
    have hq6w:=HB3.out.lt
    have hsz1:=HX2.out.size
    have hq6:=HQ6.out
    have hszB:=HSB.out
    obtain ⟨V,hV⟩: ∃V:Nat→Prop,V=fun i=>((Value.slice a3 L2.length k3).ownBlock=some i∨ ∃q,(vs3.getD q (.slice none 0 0)).ownBlock=some i):=⟨_,rfl⟩
    have hVl: ∀i,V i→wB.heap.size≤i∧i<w3.heap.size:=fun i hi=>q5f HOg3.out i (by rw[hV] at hi;exact hi)
    have hoff4:OffS (fun i=>i=q6) w3 (((w3.setCell ⟨q6,3,none⟩ (.slice a3 L2.length k3)).setCell ⟨q6,0,none⟩ (.int .i64 (st.m.nx+1))).setCell ⟨q6,1,none⟩ (.int .i64 en)):=
      ((OffS.set (F:=fun i=>i=q6) w3 rfl 3 (.slice a3 L2.length k3)).trans (OffS.set (F:=fun i=>i=q6) _ rfl 0 (.int .i64 (st.m.nx+1)))).trans (OffS.set (F:=fun i=>i=q6) _ rfl 1 (.int .i64 en))
    have hbx4:Blk (((w3.setCell ⟨q6,3,none⟩ (.slice a3 L2.length k3)).setCell ⟨q6,0,none⟩ (.int .i64 (st.m.nx+1))).setCell ⟨q6,1,none⟩ (.int .i64 en)) q6 45 #[.int .i64 (st.m.nx+1),.int .i64 en,.int .u64 st.m.sd,.slice a3 L2.length k3]:=
      ((HB3.out.set 3 (.slice a3 L2.length k3)).set 0 (.int .i64 (st.m.nx+1))).set 1 (.int .i64 en)
    obtain ⟨w4,hw4⟩: ∃w4,((w3.setCell ⟨q6,3,none⟩ (.slice a3 L2.length k3)).setCell ⟨q6,0,none⟩ (.int .i64 (st.m.nx+1))).setCell ⟨q6,1,none⟩ (.int .i64 en)=w4:=⟨_,rfl⟩
    rw[hw4] at hoff4 hbx4
    simp only[hw4]
    have hF3:IxF wb w3 g F1 σ gx gm1 gt1 st Y1 (fun i=>(K i∨i=q6)∨V i):=H1.out.more HX3.out fun i hi=>by
      rcases hi with (hi|hi)|hi
      · exact .inl hi
      · exact .inr ⟨by omega,by rw[hi];exact hq6w⟩
      · have:=hVl i hi;exact .inr ⟨by omega,this.2⟩
    have hF4:IxF wb w4 g F1 σ gx gm1 gt1 st Y1 (fun i=>(K i∨i=q6)∨V i):=hF3.side hoff4.size (hoff4.ext hF3.ext fun i hi=>by rw[hi];have:=H1.out.ext.size;omega) fun i hi hn=>hoff4.block i hi fun e=>hn (.inl (.inr e))
    have hman:ManV w4 (st.m.add L2 en) (.slice a3 L2.length k3) vs3 V:=⟨q2S (q6A HOg3.out (Nat.zero_le _)) fun i hi=>hoff4.block i (q5f HOg3.out i hi).2 (fun e=>by have:=(q5f HOg3.out i hi).1;omega),fun i hi=>by rw[hV];exact hi⟩
    have HKV:Hid (∀i,V i→wb.heap.size≤i∧¬(K i∨i=q6)):=Lib.hid fun i hi=>by
      have h1:=hVl i hi
      have h2:=H1.out.ext.size
      refine ⟨by omega,?_⟩
      rintro (h3|h3)
      · have:=(H1.out.k i h3).1;omega
      · omega
    have HSt4:Hid (Stay K w1 w4):=Lib.hid fun i hi=>by
      have h1:=(H1.out.k i hi).1
      rw[hoff4.block i (Nat.lt_of_lt_of_le h1 HX3.out.size) (by omega),HX3.out.block i h1]
    obtain ⟨_,v4,vs4,vm4,D4,nn4,hi4⟩:=hF4.i.x
    have HC:Hid (∀W,Ext w4 W→(W.cell? ⟨q6,0,none⟩=some (.int .i64 (st.m.nx+1))∧W.cell? ⟨q6,1,none⟩=some (.int .i64 en)∧W.cell? ⟨q6,2,none⟩=some (.int .u64 st.m.sd)∧W.cell? ⟨q6,3,none⟩=some (.slice a3 L2.length k3))∧W.cell? ⟨gx,6,none⟩=some (.pointer (some ⟨gm1,0,none⟩))):=Lib.hid fun W hW=>
      ⟨⟨(hbx4.ext hW).cell 0,(hbx4.ext hW).cell 1,(hbx4.ext hW).cell 2,(hbx4.ext hW).cell 3⟩,(hi4.ext hW).c6⟩
    have HDu:=Lib.hid (fun W (k:Ext w4 W)=>z7C (hi4.mem.ext k) (by omega))
    have HF4:=Lib.hid hF4;have HMan:=Lib.hid hman
    have hbd:=HBd.out
    have hRm:=z1M (L:=st.m.L) (x:=st.m.nx) (by rw[HR.out])
    rw[HR.out] at hRm
    have HTu:Hid (∀W (k:Ext w4 W) (ae:Option Addr) (ce:Nat),Ens W ae st.w.length ce st.w→Calls Tryz.prog 68 #[.pointer (some ⟨gx,0,none⟩),.agg #[.int .i64 (st.m.nx+1),.int .i64 en,.int .u64 st.m.sd,.slice a3 L2.length k3],.int .i64 st.m.nx,.slice ae st.w.length ce] W fun e w'=>
      ∃f:List UInt8,128≤f.length∧f.length≤64*(st.w.length/20+2)∧e= .returned (.int .i64 (q2P σ (st.m.add L2 en) st.m.nx st.w f).1)∧z8z wb W g gx st (st.m.add L2 en) st.m.nx (fun i=>K i∨i=q6) V (q2P σ (st.m.add L2 en) st.m.nx st.w f) w'):=Lib.hid fun W k ae ce he=>
      z8x (m:=st.m.add L2 en) (hF4.grow k) (hman.same fun i hi=>hF4.kExt k i (.inr hi)) HKV.out ⟨hbd.2.2.2.2.1,hbd.2.2.2.2.2.1⟩ he hw HOk.out.mem.ok (fun x hx=>by
        rcases (hRm.2.2.2.1 x).1 hx with h|h
        · exact (hbd.2.2.2.1 x h).1
        · rw[h];exact WalkArith.wf_i64 (by omega)) (by have:=hRm.2.2.2.2;show L2.flatten.length≤1000;simp only at this;omega) HOk.out.man.2.1 HOk.out.man.2.2 hc
    have HX0:=Lib.hid (Ext.drew (Ext.refl w4))
    clear hoff4 hbx4 hF3 hF4 hman hi4 hbd hRm b0 b1 b2 b3 f0 f1 f3 hVl hw4 hV
    obtain ⟨⟨y0,y1,y2,y3⟩,y6⟩:=HC.out _ HX0.out
    go_region_law (go_simp;first|(go_at_call 69;refine (HDu.out _ HX0.out).mono ?_;rintro e w5 ⟨v5,rfl,hr5,hb5⟩;obtain ⟨ae,ce,rfl,hens5⟩:=Ens.of_own (Own.of_row hr5);have HX5:=Lib.hid (HX0.out.trans hb5);have HE5:=Lib.hid hens5;obtain ⟨⟨r0,r1,r2,r3⟩,r6⟩:=HC.out _ HX5.out;clear hr5 hb5 hens5)|(go_at_call 68;refine (HTu.out _ HX5.out _ _ HE5.out).mono ?_;rintro e w6 ⟨f,f1,f2,rfl,hT⟩;have HTR:=Lib.hid hT;clear hT))
    all_goals
      have HS5:Hid (Stay K w1 w5):=Lib.hid (HSt4.out.trans fun i hi=>HF4.out.kExt HX5.out i (.inl (.inl hi)))
      clear HTu HDu HC HE5 y0 y1 y2 y3 y6 r0 r1 r2 r3 r6
      obtain ⟨r,hr⟩: ∃r,q2P σ (st.m.add L2 en) st.m.nx st.w f=r:=⟨_,rfl⟩
      have HRr:=Lib.hid hr
      rw[hr] at HTR
      simp only[hr]
      obtain ⟨c,o,τ⟩:=r
      have HAd:Hid ((addS st.m.L st.m.nx).1=L2∧(addS st.m.L st.m.nx).2=0):=Lib.hid (by rw[HR.out];exact ⟨rfl,rfl⟩)
      cases o with
      | none=>
        have g2:(c !=0)=true:=by simpa using z2h hr
        have HE:Hid (q9W wb w1 g gx st σ en K (.returned (.int .i64 c)) w6):=Lib.hid (.inr (.inr ⟨HNe.out,HAd.out.2,f,f1,f2,by rw[HAd.out.1,HRr.out],by
          rw[HAd.out.1,HRr.out]
          have h:=HTR.out
          exact ⟨h.1.beside fun i hi=> .inl hi,HS5.out.trans fun i hi=>h.2 i (.inl hi)⟩⟩))
        clear hr
        go_wp2_with fail
        go_ret
        exact ⟨_,_,HP.out,HE.out⟩
      | some L=>
        obtain rfl:=z2U hr
        obtain ⟨b,may,hk,hs⟩:=HTR.out
        obtain ⟨m6,c6,hcl⟩:=(hk.beside (K':=K) fun i hi=> .inl hi).clear (f:=70) (P:=Tryz.prog) (args:=fun m=>#[.pointer (some ⟨m,0,none⟩)]) (fun m v L h=>z5t h)
        have HCl:=Lib.hid hcl
        have HS6:Hid (Stay K w1 w6):=Lib.hid (HS5.out.trans fun i hi=>hs i (.inl hi))
        have HE:Hid (∀W,IxK wb W g gx {st.put (st.m.add L2 en) st.m.nx ⟨b,L,may⟩ with w:=[]} τ K→Stay K w6 W→q9W wb w1 g gx st σ en K (.returned (.int .i64 0)) W):=Lib.hid fun W h1 h2=> .inr (.inr ⟨HNe.out,HAd.out.2,f,f1,f2,by rw[HAd.out.1,HRr.out],by
          rw[HAd.out.1,HRr.out]
          exact ⟨b,may,h1,HS6.out.trans h2⟩⟩)
        clear hr hk hs hcl
        go_wp2_with fail
        refine HCl.out.mono ?_
        rintro e w7 ⟨rfl,h7,h8⟩
        have HE2:=Lib.hid (HE.out _ h7 h8)
        clear h7 h8
        go_wp2_with fail
        go_ret
        exact ⟨_,_,HP.out,HE2.out⟩
end
end Go.Proofs.YtmajfklnagdlpaaGreatDoor
namespace Go.Proofs.YtmajfklnagdlpaaGreatDoor
open Go.RowKit Go.Maps
set_option maxRecDepth 100000
set_option linter.unusedVariables false
set_option maxHeartbeats 12800000
section
variable {wb w0 w W W1 w1 w2:World} {g gx gm gt B:Nat} {st st1:IxSt} {F Y Y1 K K' V T:Nat→Prop} {σ σ1:DM} {va v v1 v2 vm:Value} {vs:List Value} {ns:List Int} {acc:List (List En)} {M L:List En}
end
end Go.Proofs.YtmajfklnagdlpaaGreatDoor
namespace Go.Proofs.YtmajfklnagdlpaaGreatDoor
open Go.RowKit
theorem q8A : ∀{a b:List En},q2R a→q2R b→(∀x∈a,x∈b)→a.Sublist b
  |[],b,_,_,_=>List.nil_sublist b
  |x::a,[],_,_,h=>absurd (h x (.head _)) (by simp)
  | x :: a,y::b,ha,hb,h=>by
    obtain ⟨h1,h2⟩:=List.pairwise_cons.1 ha
    obtain ⟨h3,h4⟩:=List.pairwise_cons.1 hb
    rcases List.mem_cons.1 (h x (.head _)) with e|hx
    · subst e
      refine (q8A h2 h4 fun z hz=>?_).cons_cons x
      rcases List.mem_cons.1 (h z (.tail _ hz)) with e|hz2
      · have:=h1 z hz
        rw[e,q2H] at this;cases this
      · exact hz2
    · refine (q8A ha h4 fun z hz=>?_).cons y
      rcases List.mem_cons.1 (h z hz) with e|hz2
      · rcases List.mem_cons.1 hz with e2|hz3
        · rw[e2];exact hx
        · have h5:=h1 z hz3
          have h6:=h3 x hx
          rw[e] at h5
          have:=q2i h5 h6
          rw[q2H] at this;cases this
      · exact hz2
theorem q5X {a b:List En} (ha:q2R a) (hb:q2R b) (h: ∀x∈a,x∈b):a.length≤b.length:=(q8A ha hb h).length_le
def TL (st:IxSt) (n:Int):List En:=match st.t n with|some e=>e.L|none=>[]
theorem q5M {st:IxSt} {n:Int} {e:TE} (h:st.t n=some e):TL st n=e.L:=by unfold TL;rw[h]
structure PInv (st:IxSt) (σ:DM) (c s:Int) (φ:Fls) (u cnt:Nat) (B:List En):Prop where
  fl:Fl σ c s φ u cnt
  man:st.m.ok
  full:st.full
  tb: ∀n e,st.t n=some e→n∈st.m.L.flatten∧φ (q0B 116 n)=some (q2r e.L)∧(∃y,φ (q0B 98 n)=some y)∧okM e.L∧ ∀x∈e.L,e.may x.1=true
  only: ∀nm,φ nm≠none→nm=mapN∨(∃n∈st.m.L.flatten,nm=q0B 116 n∨nm=q0B 98 n)∨ ∃k:Nat,k≤999999∧nm=q0B 99 (k:Int)
  okw:okM st.w
  okB:okM B
  mem: ∀x,x∈B↔x∈st.w∨ ∃n e,st.t n=some e∧x∈e.L
section
variable {st :IxSt} {σ σ':DM} {c s:Int} {φ:Fls} {u cnt:Nat} {B:List En}
theorem PInv.grow (h:PInv st σ c s φ u cnt B):GrowI st.m.L st.m.nx.toNat:=by
  have hb:=Man.bounds h.man
  have hv:=h.man.1
  unfold q0T at hv
  simp only[Bool.and_eq_true] at hv
  exact ⟨hv.1.2,fun x hx=>by have:=hb.2.2.2.1 x hx;omega⟩
theorem PInv.range (h:PInv st σ c s φ u cnt B) {n:Int} (hn:n∈st.m.L.flatten):0≤n∧n≤999999∧n<st.m.nx:=by
  have hb:=Man.bounds h.man
  have:=hb.2.2.2.1 n hn
  omega
theorem PInv.mono (h:PInv st σ c s φ u cnt B) {u' cnt':Nat} (h1:u≤u') (h2:cnt≤cnt'):PInv st σ c s φ u' cnt' B:=⟨h.fl.mono h1 h2,h.man,h.full,h.tb,h.only,h.okw,h.okB,h.mem⟩
theorem PInv.wlen (h:PInv st σ c s φ u cnt B):st.w.length≤B.length:=q5X h.okw.sort h.okB.sort fun x hx=>(h.mem x).2 (.inl hx)
theorem PInv.wl (h:PInv st σ c s φ u cnt B) {n:Int} {e:TE} (he:st.t n=some e):Wl σ n e.L:=h.fl.wl (h.tb n e he).2.1
theorem PInv.add (h:PInv st σ c s φ u cnt B) {x:En} (hx:q4p x=true) (hl:B.length<50000):PInv {st with w:=q3Z x st.w} σ c s φ u cnt (q3Z x B):=by
  have hw:=h.wlen
  refine ⟨h.fl,h.man,h.full,h.tb,h.only,h.okw.add hx (by omega),h.okB.add hx hl,fun y=>?_⟩
  show y∈q3Z x B↔y∈q3Z x st.w∨_
  rw[mem_addE,mem_addE,h.mem y]
  constructor
  · rintro (h1|h1|h1)
    · exact .inl (.inl h1)
    · exact .inl (.inr h1)
    · exact .inr h1
  · rintro ((h1|h1)|h1)
    · exact .inl h1
    · exact .inr (.inl h1)
    · exact .inr (.inr h1)
end
end Go.Proofs.YtmajfklnagdlpaaGreatDoor
namespace Go.Proofs.YtmajfklnagdlpaaGreatDoor
open Go.RowKit
theorem q2x {c c':UInt8} (hc:q1a c=true) (hc':q1a c'=true) {n m:Int} (hn:0≤n∧n≤999999) (hm:0≤m∧m≤999999) (h:q0B c n=q0B c' m):c=c'∧n=m:=by
  have h1:=q1j hc hn
  rw[h,q1j hc' hm] at h1
  injection h1 with h1 h2
  injection h2 with h2 _
  exact ⟨h1.symm,by omega⟩
theorem z2S :q1a 116=true:=by decide
theorem z9F :q1a 98=true:=by decide
theorem z8o :q1a 99=true:=by decide
theorem q2Y {k:Nat} (hk:k≤999999):q0B 99 (k:Int)≠mapN∧q0B 99 (k:Int)≠q1u:=by
  rw[q0P (by omega)]
  exact ⟨fun e=>absurd (List.cons.inj e).1 (by decide),fun e=>absurd (List.cons.inj e).1 (by decide)⟩
theorem q3Q {c:UInt8} (hc:c=116∨c=98) {n:Int} (hn:0≤n∧n≤999999):q0B c n≠mapN∧q0B c n≠q1u:=by
  rw[q0P hn]
  rcases hc with rfl|rfl
  · exact ⟨fun e=>absurd (List.cons.inj e).1 (by decide),fun e=>absurd (List.cons.inj e).1 (by decide)⟩
  · exact ⟨fun e=>absurd (List.cons.inj e).1 (by decide),fun e=>absurd (List.cons.inj e).1 (by decide)⟩
section
variable {st :IxSt} {σ σ':DM} {c s:Int} {φ:Fls} {u cnt:Nat} {B:List En}
theorem PInv.fresh (h:PInv st σ c s φ u cnt B) {n:Int} (hn:0≤n∧n≤999999) (hf:n∉st.m.L.flatten):φ (q0B 116 n)=none∧φ (q0B 98 n)=none:=by
  have hh: ∀c':UInt8,c'=116∨c'=98→φ (q0B c' n)=none:=fun c' hc=>by
    cases he:φ (q0B c' n) with
    |none=>rfl
    | some y=>
      exfalso
      have hl:q1a c'=true:=by rcases hc with rfl|rfl<;>decide
      rcases h.only (q0B c' n) (by rw[he];simp) with e|⟨m,hm,e|e⟩|⟨k,hk,e⟩
      · exact (q3Q hc hn).1 e
      · have hr:=h.range hm
        exact hf ((q2x hl z2S hn (by omega) e).2▸hm)
      · have hr:=h.range hm
        exact hf ((q2x hl z9F hn (by omega) e).2▸hm)
      · have e9:=(q2x hl z8o hn (by omega) e).1
        rcases hc with rfl|rfl<;>exact absurd e9 (by decide)
  exact ⟨hh 116 (.inl rfl),hh 98 (.inr rfl)⟩
theorem PInv.noNew (h:PInv st σ c s φ u cnt B):φ q1u=none:=by
  cases he:φ q1u with
  |none=>rfl
  | some y=>
    exfalso
    rcases h.only q1u (by rw[he];simp) with e|⟨m,hm,e|e⟩|⟨k,hk,e⟩
    · exact new_ne_map e
    · have hr:=h.range hm
      exact (q3Q (.inl rfl) (show 0≤m∧m≤999999 by omega)).2 e.symm
    · have hr:=h.range hm
      exact (q3Q (.inr rfl) (show 0≤m∧m≤999999 by omega)).2 e.symm
    · exact (q2Y hk).2 e.symm
def q4x (φ:Fls) (n:Int) (f tab S:List UInt8):Fls:=q4s (q4s (q4s φ (q0B 98 n) f) (q0B 116 n) tab) mapN S
theorem z3q (φ:Fls) {n:Int} (hn:0≤n∧n≤999999) (f tab S:List UInt8):q4x φ n f tab S (q0B 116 n)=some tab∧q4x φ n f tab S (q0B 98 n)=some f:=by
  unfold q4x q4s
  refine ⟨?_,?_⟩
  · simp[(q3Q (.inl rfl) hn).1]
  · simp[(q3Q (.inr rfl) hn).1,(q4V n n hn hn).symm]
theorem z3R (φ:Fls) {n m:Int} (hn:0≤n∧n≤999999) (hm:0≤m∧m≤999999) (hne:m≠n) (f tab S:List UInt8):q4x φ n f tab S (q0B 116 m)=φ (q0B 116 m)∧q4x φ n f tab S (q0B 98 m)=φ (q0B 98 m):=by
  unfold q4x q4s
  rw[if_neg (q3Q (.inl rfl) hm).1,if_neg (fun e=>hne (q2x z2S z2S hm hn e).2),if_neg (q4V m n hm hn),if_neg (q3Q (.inr rfl) hm).1,if_neg (fun e=>(q4V n m hn hm) e.symm),if_neg (fun e=>hne (q2x z9F z9F hm hn e).2)]
  exact ⟨rfl,rfl⟩
theorem z2p {φ:Fls} {n:Int} {f tab S nm:List UInt8} (h:q4x φ n f tab S nm≠none):nm=mapN∨nm=q0B 116 n∨nm=q0B 98 n∨φ nm≠none:=by
  unfold q4x q4s at h
  by_cases h1:nm=mapN
  · exact .inl h1
  · rw [if_neg h1] at h
    by_cases h2:nm=q0B 116 n
    · exact .inr (.inl h2)
    · rw [if_neg h2] at h
      by_cases h3:nm=q0B 98 n
      · exact .inr (.inr (.inl h3))
      · rw[if_neg h3] at h
        exact .inr (.inr (.inr h))
theorem PInv.flush (h:PInv st σ c s φ u cnt B) {L2:List (List Int)} {en:Int} {f:List UInt8} (ha:addS st.m.L st.m.nx=(L2,0)) (hen:0≤en∧en≤2147483647) (hnx:st.m.nx<1000000) (hcn:cnt<397):
    (∃ σ',q2P σ (st.m.add L2 en) st.m.nx st.w f=(0,some st.w,σ')∧ ∀b may,(∀x∈st.w,may x.1=true)→
      PInv {st.put (st.m.add L2 en) st.m.nx ⟨b,st.w,may⟩ with w:=[]} σ' c s (q4x φ st.m.nx f (q2r st.w) (st.m.add L2 en).S) (u+f.length+(q2r st.w).length+300) (cnt+3) B)∨
      ∃σ',q2P σ (st.m.add L2 en) st.m.nx st.w f=(60,none,σ')∧PInv st σ' c s φ (u+f.length+(q2r st.w).length+300) (cnt+3) B∧c-(u:Int)-((q2r st.w).length:Int)-(f.length:Int)-300<6000:=by
  have hb:=Man.bounds h.man
  have hnn:0≤st.m.nx∧st.m.nx≤999999:=by omega
  obtain ⟨a1,a2,a3,a4,a5⟩:=z1M (L:=st.m.L) (x:=st.m.nx) (by rw[ha])
  rw[ha] at a3 a4
  simp only at a3 a4
  have hg:=h.grow
  have hcast:((st.m.nx.toNat:Nat):Int)=st.m.nx:=by omega
  have hlt40:st.m.L.flatten.length<40:=by
    rcases Nat.lt_or_ge st.m.L.flatten.length 40 with h1|h1
    · exact h1
    · have h2:=hg.addS
      rw[hcast,if_pos h1,ha] at h2
      injection h2 with _ h2
      cases h2
  have hga:=(hg.add hlt40).1
  rw[hcast,←a3] at hga
  have hmv:q0T (st.m.add L2 en).nx (st.m.add L2 en).ck (st.m.add L2 en).L=true:=by
    unfold q0T Man.add
    simp only[Bool.and_eq_true,decide_eq_true_eq,List.all_eq_true]
    exact ⟨⟨⟨by omega,by omega,hen.1,hen.2⟩,hga.1⟩,fun x hx=>by have:=hga.2 x hx;push_cast at this;omega⟩
  obtain ⟨f1,f2⟩:=h.fresh hnn a1
  rcases h.fl.turn (m:=st.m.add L2 en) hmv hnn h.okw.sort ((q2F _).2 h.okw.sort) h.okw.ok h.okw.len (f:=f) f1 f2 h.noNew hcn with ⟨σ',e,hfl⟩|⟨σ',e,hfl,hr⟩
  case inr=>exact .inr ⟨σ',e,⟨hfl,h.man,h.full,h.tb,h.only,h.okw,h.okB,h.mem⟩,hr⟩
  refine .inl ⟨σ',e,fun b may hth=>⟨hfl,⟨hmv,h.man.2⟩,fun x hx=>?_,fun n e2 he=>?_,fun nm hnm=>?_,okM.nil,h.okB,fun x=>?_⟩⟩
  · exact (IxSt.put_full (m:=st.m.add L2 en) (n:=st.m.nx) (e:=⟨b,st.w,may⟩) h.full (fun y hy=>((a4 y).1 hy).symm)) x hx
  · unfold IxSt.put at he
    simp only at he
    by_cases hne:n=st.m.nx
    · rw[if_pos hne] at he
      injection he with he
      subst he
      subst hne
      obtain ⟨t1,t2⟩:=z3q φ hnn f (q2r st.w) (st.m.add L2 en).S
      exact ⟨(a4 _).2 (.inr rfl),t1,⟨_,t2⟩,h.okw,hth⟩
    · rw[if_neg hne] at he
      obtain ⟨t0,t1,⟨y,t2⟩,t3,t4⟩:=h.tb n e2 he
      have hr2:=h.range t0
      obtain ⟨o1,o2⟩:=z3R φ hnn (m:=n) (by omega) hne f (q2r st.w) (st.m.add L2 en).S
      exact ⟨(a4 n).2 (.inl t0),by rw[o1];exact t1,⟨y,by rw[o2];exact t2⟩,t3,t4⟩
  · rcases z2p hnm with e1|e1|e1|e1
    · exact .inl e1
    · exact .inr (.inl ⟨st.m.nx,(a4 _).2 (.inr rfl),.inl e1⟩)
    · exact .inr (.inl ⟨st.m.nx,(a4 _).2 (.inr rfl),.inr e1⟩)
    · rcases h.only nm e1 with e2|⟨n,hn,e2⟩|e2
      · exact .inl e2
      · exact .inr (.inl ⟨n,(a4 n).2 (.inl hn),e2⟩)
      · exact .inr (.inr e2)
  · rw [h.mem x]
    unfold IxSt.put
    simp only
    constructor
    · rintro (h1|⟨n,e2,he,h1⟩)
      · exact .inr ⟨st.m.nx,_,if_pos rfl,h1⟩
      · have hne:n≠st.m.nx:=fun e3=>by
          have:=h.range (h.tb n e2 he).1
          omega
        exact .inr ⟨n,e2,by rw[if_neg hne];exact he,h1⟩
    · rintro (h1|⟨n,e2,he,h1⟩)
      · cases h1
      · by_cases hne:n=st.m.nx
        · rw[if_pos hne] at he
          injection he with he
          subst he
          exact .inl h1
        · rw[if_neg hne] at he
          exact .inr ⟨n,e2,he,h1⟩
end
end Go.Proofs.YtmajfklnagdlpaaGreatDoor
namespace Go.Proofs.YtmajfklnagdlpaaGreatDoor
open Go.RowKit
section
variable {st :IxSt} {σ σ':DM} {c s:Int} {φ:Fls} {u cnt:Nat} {B:List En}
theorem PInv.unionLe (h:PInv st σ c s φ u cnt B) (ns:List Int):okM (q4H (ns.map (TL st)))∧(q4H (ns.map (TL st))).length≤B.length∧ ∀x∈q4H (ns.map (TL st)),x∈B:=by
  have hm: ∀x∈q4H (ns.map (TL st)),x∈B:=fun x hx=>by
    obtain ⟨L,hL,hx2⟩:=mem_union.1 hx
    obtain ⟨n,hn,rfl⟩:=List.mem_map.1 hL
    unfold TL at hx2
    cases he:st.t n with
    |none=>rw[he] at hx2;simp at hx2
    |some e=>rw[he] at hx2;exact (h.mem x).2 (.inr ⟨n,e,he,hx2⟩)
  have hl:=q5X (q7j (ns.map (TL st))) h.okB.sort hm
  exact ⟨⟨q7j _,fun x hx=>h.okB.ok x (hm x hx),by have:=h.okB.len;omega⟩,hl,hm⟩
end
end Go.Proofs.YtmajfklnagdlpaaGreatDoor
namespace Go.Proofs.YtmajfklnagdlpaaGreatDoor
open Go.RowKit
def CksIn (φ:Fls) (C:Cks):Prop:= ∀k:Nat,k≤999999→φ (q0B 99 (k:Int))=(C[k]?).map (q0V k)
def z2J (φ:Fls) (m:Man):Prop:=(φ mapN=some m.S∧0<m.nx)∨(φ mapN=none∧m.nx=0∧m.ck=0∧m.L=[])
def z9R (nm:List UInt8):Prop:= ∀k:Nat,k≤999999→nm≠q0B 99 (k:Int)
theorem z3k : ∀{a b:List (List UInt8×List UInt8)},q2W Prod.fst a→q2W Prod.fst b→(∀z,z∈a↔z∈b)→a=b
  |[],[],_,_,_=>rfl
  |[],y::b,_,_,h=>absurd ((h y).2 (.head _)) (by simp)
  |x::a,[],_,_,h=>absurd ((h x).1 (.head _)) (by simp)
  | x ::a,y::b,ha,hb,h=>by
    obtain ⟨h1,h2⟩:=List.pairwise_cons.1 ha
    obtain ⟨h3,h4⟩:=List.pairwise_cons.1 hb
    have hxy:x=y:=by
      rcases List.mem_cons.1 ((h x).1 (.head _)) with e|hx
      · exact e
      rcases List.mem_cons.1 ((h y).2 (.head _)) with e|hy
      · exact e.symm
      have:=WideShapes.bytes_trans _ _ _ (h1 y hy) (h3 x hx)
      rw[WideAt.bytes_irrefl] at this;cases this
    subst hxy
    rw[z3k h2 h4 fun z=>?_]
    constructor
    · intro hz
      rcases List.mem_cons.1 ((h z).1 (.tail _ hz)) with e|hz2
      · have:=h1 z hz;rw[e,WideAt.bytes_irrefl] at this;cases this
      · exact hz2
    · intro hz
      rcases List.mem_cons.1 ((h z).2 (.tail _ hz)) with e|hz2
      · have:=h3 z hz;rw[e,WideAt.bytes_irrefl] at this;cases this
      · exact hz2
theorem z1J {l:List (List UInt8×List UInt8)} (h:q2W Prod.fst l) (z:List UInt8×List UInt8):z∈l↔(q0E Prod.fst z.1 l).map Prod.snd=some z.2:=by
  constructor
  · intro hz;rw[q3R h hz rfl];rfl
  · intro hz
    cases hf:q0E Prod.fst z.1 l with
    |none=>rw[hf] at hz;cases hz
    | some y=>
      rw[hf] at hz
      injection hz with hz
      obtain ⟨h1,h2⟩:=q0H hf
      have:y=z:=Prod.ext h2 hz
      rwa [this] at h1
theorem z6a {a b:List (List UInt8×List UInt8)} (ha:q2W Prod.fst a) (hb:q2W Prod.fst b) (h: ∀nm,(q0E Prod.fst nm a).map Prod.snd=(q0E Prod.fst nm b).map Prod.snd):a=b:=
  z3k ha hb fun z=>by rw[z1J ha,z1J hb,h]
theorem q8N {α:Type} {r:α→α→Prop} {p:α→Bool} (hp: ∀x y,r x y→p y=true→p x=true): ∀{l:List α},l.Pairwise r→l=l.filter p++l.filter (fun y=>!p y)
  |[],_=>rfl
  | x :: l,h=>by
    obtain ⟨h1,h2⟩:=List.pairwise_cons.1 h
    cases hx:p x with
    | true=>
      rw[List.filter_cons_of_pos hx,List.filter_cons_of_neg (by simp[hx]),List.cons_append,←q8N hp h2]
    | false=>
      have hn: ∀y∈l,p y=false:=fun y hy=>by
        cases hy2:p y with
        |false=>rfl
        |true=>rw[hp x y (h1 y hy) hy2] at hx;cases hx
      rw [List.filter_cons_of_neg (by simp[hx]),List.filter_cons_of_pos (by simp[hx]),List.filter_eq_nil_iff.2 fun y hy=>by simp[hn y hy],List.nil_append,
        List.filter_eq_self.2 fun y hy=>by simp[hn y hy]]
theorem q8M {α:Type} [DecidableEq α]: ∀{l m:List α},l.Nodup→(∀x∈l,x∈m)→l.length≤m.length
  |[],_,_,_=>Nat.zero_le _
  | x::l,m,h,hm=>by
    obtain ⟨h1,h2⟩:=List.nodup_cons.1 h
    have hx:=hm x (.head _)
    have h3:=q8M (m:=m.erase x) h2 fun y hy=>(List.mem_erase_of_ne (fun e:y=x=>h1 (by rw[←e];exact hy))).2 (hm y (.tail _ hy))
    rw[List.length_erase_of_mem hx] at h3
    have:=List.length_pos_of_mem hx
    rw[List.length_cons];omega
theorem q4u {k:Nat} (hk:k≤999999):bytesBefore [99] (q0B 99 (k:Int))=true∧bytesBefore (q0B 99 (k:Int)) [100]=true∧bytesBefore (q0B 99 (k:Int)) [99]=false:=by
  rw[q0P (by omega)]
  have hl:=q0X 6 ((k:Int)).toNat
  cases hd:q4F 6 ((k:Int)).toNat with
  |nil=>rw[hd] at hl;cases hl
  |cons a r=>exact ⟨by simp[bytesBefore],by simp[bytesBefore],by simp[bytesBefore]⟩
theorem q9H {n:Int} (hn:0≤n∧n≤999999):bytesBefore (q0B 98 n) [99]=true∧bytesBefore (q0B 116 n) [100]=false∧bytesBefore (q0B 116 n) [99]=false:=by
  rw[q0P hn,q0P hn]
  exact ⟨by simp[bytesBefore],by simp[bytesBefore],by simp[bytesBefore]⟩
theorem before_map :bytesBefore mapN [100]=false∧bytesBefore mapN [99]=false:=by decide
section
variable {st :IxSt} {σ σ':DM} {c s:Int} {φ:Fls} {u cnt:Nat} {B:List En} {C C':Cks} {E:Oth}
theorem z1L : ∀(C:Cks) (i:Nat),i+C.length≤999999→q2W Prod.fst (q2z i C)
  |[],_,_=>List.Pairwise.nil
  | ps::r,i,h=>by
    rw[List.length_cons] at h
    refine List.pairwise_cons.2 ⟨fun y hy=>?_,z1L r (i+1) (by omega)⟩
    obtain ⟨j,h1,h2,h3⟩:=q2C hy
    rw[h3]
    exact q5e (by omega) (by omega) (by omega)
theorem q7w {C:Cks} (hC:C.length≤200) {k:Nat} (hk:k≤999999):(q0E Prod.fst (q0B 99 (k:Int)) (q2z 0 C)).map Prod.snd=(C[k]?).map (q0V k):=by
  rcases Nat.lt_or_ge k C.length with h|h
  · rw[q9m hC (List.getElem?_eq_getElem h),List.getElem?_eq_getElem h];rfl
  · rw[q9h hC h hk,List.getElem?_eq_none h];rfl
theorem z0k (h:PInv st σ c s φ u cnt B) (hc:CksIn φ C) (hC:okC C):
    ∃E,Lgd E σ (c-(q2G E:Int)) s C∧(∀nm,z9R nm→(q0E Prod.fst nm (E.X++E.Z)).map Prod.snd=φ nm)∧q2G E+q0q C≤u∧E.X.length+C.length+E.Z.length≤cnt:=by
  obtain ⟨l,hpl,hord,hfun,hus,hln⟩:=h.fl
  have hone: ∀y∈l,φ y.1≠none:=fun y hy e=>by
    have:=hfun y.1
    rw[q3R hord hy rfl,e] at this;cases this
  have p1:=q8N (r:=fun x y:List UInt8×List UInt8=>bytesBefore x.1 y.1=true) (p:=fun y:List UInt8×List UInt8=>bytesBefore y.1 [99]) (fun x y h1 h2=>WideShapes.bytes_trans _ _ _ h1 h2) hord
  have hr:=hord.filter (p:=fun y:List UInt8×List UInt8=>!bytesBefore y.1 [99])
  have p2:=q8N (r:=fun x y:List UInt8×List UInt8=>bytesBefore x.1 y.1=true) (p:=fun y:List UInt8×List UInt8=>bytesBefore y.1 [100]) (fun x y h1 h2=>WideShapes.bytes_trans _ _ _ h1 h2) hr
  obtain ⟨X,hX⟩: ∃X,l.filter (fun y=>bytesBefore y.1 [99])=X:=⟨_,rfl⟩
  obtain ⟨R,hR⟩: ∃R,l.filter (fun y=>!bytesBefore y.1 [99])=R:=⟨_,rfl⟩
  obtain ⟨M,hM⟩: ∃M,R.filter (fun y=>bytesBefore y.1 [100])=M:=⟨_,rfl⟩
  obtain ⟨Z,hZ⟩: ∃Z,R.filter (fun y=>!bytesBefore y.1 [100])=Z:=⟨_,rfl⟩
  rw[hX,hR] at p1
  rw[hR,hM,hZ] at p2
  rw[p2] at p1
  have mX: ∀y,y∈X↔y∈l∧bytesBefore y.1 [99]=true:=fun y=>by rw[←hX,List.mem_filter]
  have mR: ∀y,y∈R↔y∈l∧bytesBefore y.1 [99]=false:=fun y=>by rw[←hR,List.mem_filter];simp
  have mM: ∀y,y∈M↔y∈l∧bytesBefore y.1 [99]=false∧bytesBefore y.1 [100]=true:=fun y=>by rw[←hM,List.mem_filter,mR];simp[and_assoc]
  have mZ: ∀y,y∈Z↔y∈l∧bytesBefore y.1 [99]=false∧bytesBefore y.1 [100]=false:=fun y=>by rw[←hZ,List.mem_filter,mR];simp[and_assoc]
  have hrng: ∀n∈st.m.L.flatten,0≤n∧n≤999999:=fun n hn=>by have:=h.range hn;omega
  have hXZ: ∀y,y∈X∨y∈Z→y.1=mapN∨ ∃n∈st.m.L.flatten,y.1=q0B 116 n∨y.1=q0B 98 n:=fun y hy=>by
    have hl:y∈l:=hy.elim (fun h=>((mX y).1 h).1) fun h=>((mZ y).1 h).1
    rcases h.only y.1 (hone y hl) with e|e|⟨k,hk,e⟩
    · exact .inl e
    · exact .inr e
    · exfalso
      obtain ⟨_,b2,b3⟩:=q4u hk
      rcases hy with hy|hy
      · have:=((mX y).1 hy).2;rw[e,b3] at this;cases this
      · have:=((mZ y).1 hy).2.2;rw[e,b2] at this;cases this
  have hMk: ∀y∈M,∃k:Nat,k≤999999∧y.1=q0B 99 (k:Int):=fun y hy=>by
    obtain ⟨hl,q1,q2⟩:=(mM y).1 hy
    rcases h.only y.1 (hone y hl) with e|⟨n,hn,e|e⟩|e
    · rw[e,before_map.1] at q2;cases q2
    · rw[e,(q9H (hrng n hn)).2.1] at q2;cases q2
    · rw[e,(q9H (hrng n hn)).1] at q1;cases q1
    · exact e
  have hordP:=hord
  rw[p1] at hordP
  obtain ⟨oX,oMZ,_⟩:=List.pairwise_append.1 hordP
  obtain ⟨oM,oZ,_⟩:=List.pairwise_append.1 oMZ
  have hMC:M=q2z 0 C:=z6a oM (z1L C 0 (by have:=hC.few;omega)) fun nm=>by
    by_cases hnm: ∃k:Nat,k≤999999∧nm=q0B 99 (k:Int)
    · obtain ⟨k,hk,rfl⟩:=hnm
      rw[q7w hC.few hk,←hc k hk,←hfun]
      obtain ⟨_,b2,b3⟩:=q4u hk
      rw[p1,q0Z fun y hy e=>?_,q1D fun y hy e=>?_]
      · have:=((mZ y).1 hy).2.2;rw[show y.1=q0B 99 (k:Int) from e,b2] at this;cases this
      · have:=((mX y).1 hy).2;rw[show y.1=q0B 99 (k:Int) from e,b3] at this;cases this
    · rw [q0S fun y hy e=>hnm (by obtain ⟨k,hk,e2⟩:=hMk y hy;exact ⟨k,hk,by rw[←e2];exact e.symm⟩),q0S fun y hy e=>hnm (by
        obtain ⟨j,h1,h2,h3⟩:=q2C hy
        exact ⟨j,by have:=hC.few;omega,by rw[←h3];exact e.symm⟩)]
  rw[hMC] at p1
  have hnn:=h.noNew
  have huse:q1K l=q2G ⟨X,Z⟩+q0q C:=by
    rw[p1,q0z,q0z,q3o]
    unfold q2G
    simp only;omega
  have hlen:l.length=X.length+C.length+Z.length:=by rw[p1];simp[q3T];omega
  refine ⟨⟨X,Z⟩,⟨?_,hC,⟨fun y hy k hk=>?_,fun y hy k hk=>?_,fun y hy e=>?_,fun y hy hp=>?_,fun y hy=>?_,?_⟩⟩,fun nm hnm=>?_,by omega,by simp only;omega⟩
  · rw[show c-(q2G ⟨X,Z⟩:Int)+(q2G ⟨X,Z⟩:Int)=c by omega]
    show Pl σ c s (X++(q2z 0 C++Z))
    rw[←p1];exact hpl
  · exact WideShapes.bytes_trans _ _ _ ((mX y).1 hy).2 (q4u hk).1
  · by_cases q:y.1=[100]
    · rw[q];exact (q4u hk).2.1
    · rcases WideAt.bytes_total y.1 [100] q with q|q
      · rw[((mZ y).1 hy).2.2] at q;cases q
      · exact WideShapes.bytes_trans _ _ _ (q4u hk).2.1 q
  · have hl:y∈l:=hy.elim (fun h=>((mX y).1 h).1) fun h=>((mZ y).1 h).1
    exact hone y hl (by rw[e];exact hnn)
  · rcases hXZ y hy with e|⟨n,hn,e|e⟩
    · rw[e] at hp;exact absurd hp (by decide)
    · rw[e,q1j z2S (hrng n hn)];exact (by decide:(116:UInt8)≠99)
    · rw[e,q1j z9F (hrng n hn)];exact (by decide:(98:UInt8)≠99)
  · rcases hXZ y hy with e|⟨n,hn,e|e⟩
    · rw[e];decide
    · rw[e,q0P (hrng n hn),List.length_cons,q0X];decide
    · rw[e,q0P (hrng n hn),List.length_cons,q0X];decide
  · have hnd:((X++Z).map Prod.fst).Nodup:=by
      have ho:q2W Prod.fst (X++Z):=by
        rw[p1] at hord
        exact hord.sublist (List.Sublist.append (List.Sublist.refl X) (List.sublist_append_right _ _))
      exact List.pairwise_map.2 (q9q ho)
    have hb:=Man.bounds h.man
    have:=q8M (m:=mapN::(st.m.L.flatten.map (q0B 116)++st.m.L.flatten.map (q0B 98))) hnd fun x hx=>by
      obtain ⟨y,hy,rfl⟩:=List.mem_map.1 hx
      rcases hXZ y (List.mem_append.1 hy) with e|⟨n,hn,e|e⟩
      · rw[e];exact .head _
      · rw[e];exact .tail _ (List.mem_append.2 (.inl (List.mem_map.2 ⟨n,hn,rfl⟩)))
      · rw[e];exact .tail _ (List.mem_append.2 (.inr (List.mem_map.2 ⟨n,hn,rfl⟩)))
    simp only[List.length_map,List.length_append,List.length_cons] at this
    simp only
    omega
  · rw [←hfun,p1]
    show (q0E Prod.fst nm (X++Z)).map Prod.snd=_
    have hno: ∀y∈q2z 0 C,Prod.fst y≠nm:=fun y hy e=>by
      obtain ⟨j,h1,h2,h3⟩:=q2C hy
      exact hnm j (by have:=hC.few;omega) (by rw[←h3];exact e.symm)
    unfold q0E
    rw[List.find?_append,List.find?_append,List.find?_append]
    have h0:List.find? (fun y=>Prod.fst y==nm) (q2z 0 C)=none:=q0S hno
    rw[h0];simp
theorem PInv.relog (h:PInv st σ c s φ u cnt B) (hE: ∀nm,z9R nm→(q0E Prod.fst nm (E.X++E.Z)).map Prod.snd=φ nm) (hL:Lgd E σ' (c-(q2G E:Int)) s C') (ho:okD σ') {u' cnt':Nat} (hu:q2G E+q0q C'≤u') (hn:E.X.length+C'.length+E.Z.length≤cnt'):
    ∃φ',PInv st σ' c s φ' u' cnt' B∧CksIn φ' C'∧ ∀nm,z9R nm→φ' nm=φ nm:=by
  have hpl:=hL.pl
  rw[show c-(q2G E:Int)+(q2G E:Int)=c by omega] at hpl
  have hold: ∀nm,z9R nm→(q0E Prod.fst nm (q2o E C')).map Prod.snd=φ nm:=fun nm hnm=>by
    rw[←hE nm hnm]
    have hno: ∀y∈q2z 0 C',Prod.fst y≠nm:=fun y hy e=>by
      obtain ⟨j,h1,h2,h3⟩:=q2C hy
      exact hnm j (by have:=hL.ok.few;omega) (by rw[←h3];exact e.symm)
    unfold q0E q2o
    rw[List.find?_append,List.find?_append,List.find?_append]
    have h0:List.find? (fun y=>Prod.fst y==nm) (q2z 0 C')=none:=q0S hno
    rw[h0];simp
  have hck: ∀k:Nat,k≤999999→(q0E Prod.fst (q0B 99 (k:Int)) (q2o E C')).map Prod.snd=(C'[k]?).map (q0V k):=fun k hk=>by
    rw[←q7w hL.ok.few hk]
    unfold q2o
    rw[q0Z (hL.oth.neX hk),q1D (hL.oth.neZ hk)]
  have htb: ∀c':UInt8,(c'=116∨c'=98)→ ∀n:Int,0≤n∧n≤999999→z9R (q0B c' n):=fun c' hc n hn k hk e=>by
    have hl:q1a c'=true:=by rcases hc with rfl|rfl<;>decide
    have:=(q2x hl z8o hn (by omega) e).1
    rcases hc with rfl|rfl<;>exact absurd this (by decide)
  have hrng: ∀n∈st.m.L.flatten,0≤n∧n≤999999:=fun n hn=>by have:=h.range hn;omega
  refine ⟨fun nm=>(q0E Prod.fst nm (q2o E C')).map Prod.snd,⟨⟨q2o E C',hpl,hpl.ord ho,fun _=>rfl,by rw[q6D];exact hu,by rw[q6W];exact hn⟩,h.man,h.full,fun n e he=>?_,fun nm hnm=>?_,h.okw,h.okB,h.mem⟩,hck,hold⟩
  · obtain ⟨t0,t1,⟨y,t2⟩,t3,t4⟩:=h.tb n e he
    exact ⟨t0,(hold _ (htb 116 (.inl rfl) n (hrng n t0))).trans t1,⟨y,(hold _ (htb 98 (.inr rfl) n (hrng n t0))).trans t2⟩,t3,t4⟩
  · by_cases hc: ∃k:Nat,k≤999999∧nm=q0B 99 (k:Int)
    · exact .inr (.inr hc)
    · exact h.only nm (by rw[←hold nm fun k hk e=>hc ⟨k,hk,e⟩];exact hnm)
end
end Go.Proofs.YtmajfklnagdlpaaGreatDoor
namespace Go.Proofs.YtmajfklnagdlpaaGreatDoor
open Go.RowKit Go.Maps
set_option maxRecDepth 100000
set_option linter.unusedVariables false
set_option maxHeartbeats 12800000
def DkX (wb W:World) (g:Nat) (σ:DM) (K:Nat→Prop):Prop:= ∃F,DkF wb W g F σ K
theorem DkX.grow {wb W W':World} {g:Nat} {σ:DM} {K:Nat→Prop} (h:DkX wb W g σ K) (k:Ext W W'):DkX wb W' g σ K:=by obtain ⟨F,h1⟩:=h;exact ⟨F,h1.grow k⟩
theorem DkX.crash {wb W:World} {g:Nat} {σ:DM} {K:Nat→Prop} (h:DkX wb W g σ K) (hup:σ.down=false):Calls Tryz.prog 14 #[.pointer (some ⟨g,0,none⟩),.slice none 0 0] W fun r w'=>r= .returned (.int .i64 0)∧DkX wb w' g (q5b σ []) K∧Stay K W w':=by
  obtain ⟨F,h1⟩:=h
  have:=z6P h1.d none 0 0 [] (fun W _=>Ints.empty W)
  unfold q6q at this
  rw[if_neg (by rw[hup];decide)] at this
  refine this.mono ?_
  rintro r w' ⟨rfl,hd⟩
  obtain ⟨q1,q2⟩:=h1.disk hd
  exact ⟨rfl,⟨_,q1⟩,q2⟩
def q2l :DM→List Int→(Int→Option (List En))→(Int→Option (List En))×Int×DM
  |σ,[],acc=>(acc,0,σ)
  | σ,n::ns,acc=>match q3s σ n with
    |(none,e,τ)=>(acc,e,τ)
    |(some L,_,τ)=>q2l τ ns (fun x=>if x=n then some L else acc x)
def q8y (wb w:World) (g:Nat) (m:Man) (rate:Nat) (K:Nat→Prop) (σ:DM) (e:Ending) (w':World):Prop:=
  (q0T m.nx m.ck m.L=false∧e= .returned (.tuple #[.pointer none,.int .i64 2])∧DkX wb w' g σ K∧Stay K w w')∨
  (q0T m.nx m.ck m.L=true∧σ.down=true∧e= .returned (.tuple #[.pointer none,.int .i64 61])∧DkX wb w' g σ K∧Stay K w w')∨
  (q0T m.nx m.ck m.L=true∧σ.down=false∧(q2l σ m.L.flatten (fun _=>none)).2.1≠0∧e= .returned (.tuple #[.pointer none,.int .i64 (q2l σ m.L.flatten (fun _=>none)).2.1])∧DkX wb w' g (q2l σ m.L.flatten (fun _=>none)).2.2 K∧Stay K w w')∨
  (q0T m.nx m.ck m.L=true∧σ.down=false∧(q2l σ m.L.flatten (fun _=>none)).2.1=0∧ ∃gx t,e= .returned (.tuple #[.pointer (some ⟨gx,0,none⟩),.int .i64 0])∧
    IxK wb w' g gx ⟨m,rate,[],t,m.L.flatten.length⟩ (q2l σ m.L.flatten (fun _=>none)).2.2 K∧Stay K w w'∧ ∀n,(t n).map TE.L=(q2l σ m.L.flatten (fun _=>none)).1 n)
section
variable {wb w0 w W W1 w1 w2:World} {g gx gm gt B:Nat} {st st1:IxSt} {F Y Y1 K K' V T:Nat→Prop} {σ σ1:DM} {va v v1 v2 vm:Value} {vs:List Value} {ns:List Int} {acc:List (List En)} {M L:List En}
theorem IxI.putO {D:DataW Unit} {nn:Nat} (h:IxI w gx g gm gt st v vs vm D nn Y) {n:Int} {t:Nat} {may:Int→Bool}
    (hO:w2.ownsMap Tryz.prog 3 q4W gt (nn+1) (D.put (.int .i64 n) (.lit (.int .i64 t)))) (hoff:OffS (fun i=>i=gt) w w2)
    (htb:Tb w t g n L may T) (hT: ∀i,T i→¬InX gx gm gt i):
    IxI w2 gx g gm gt ⟨st.m,st.rate,st.w,(fun x=>if x=n then some ⟨t,L,may⟩ else st.t x),st.c+1⟩ v vs vm (D.put (.int .i64 n) (.lit (.int .i64 t))) (nn+1) (fun i=>Y i∨T i):=by
  have hY: ∀i,i<w.heap.size→i≠gt→w2.heap[i]?=w.heap[i]?:=fun i hi hx=>hoff.block i hi hx
  have hYl: ∀i,(Y i∨T i)→i<w.heap.size∧¬InX gx gm gt i:=fun i hi=>by
    rcases hi with hi|hi
    · exact ⟨h.lt i hi,h.apart i hi⟩
    · exact ⟨htb.lt i hi,hT i hi⟩
  have hYY: ∀i,(Y i∨T i)→w2.heap[i]?=w.heap[i]?:=fun i hi=>hY i (hYl i hi).1 fun e=>(hYl i hi).2 (.inr (.inr e))
  refine ⟨h.blk.same (hY _ h.blk.lt h.ne.2.1),?_,q2S h.lev fun i hi=>hYY i (.inl (h.inY i (hi.elim .inl fun e=> .inr (.inl e)))),hO,Nat.succ_le_succ h.cnt,fun x=>?_,fun x e hx=>?_,fun i hi=> .inl (h.inY i hi),fun i hi=>Nat.lt_of_lt_of_le (hYl i hi).1 hoff.size,fun i hi=>(hYl i hi).2,h.ne⟩
  · refine h.mem.same fun i hi=>?_
    rcases hi with rfl|hi
    · exact hY _ h.mem.blk.lt h.ne.2.2
    · exact hYY i (.inl (h.inY i (.inr (.inr hi))))
  · exact z1m (e:=⟨t,L,may⟩) h.look h.map.isMap x
  · simp only at hx
    by_cases hxn:x=n
    · rw[if_pos hxn] at hx
      injection hx with hx
      subst hx
      subst hxn
      exact (htb.same hoff.size fun i hi=>hYY i (.inr hi)).mono (fun i hi=> .inr hi) fun i hi=>Nat.lt_of_lt_of_le (hYl i hi).1 hoff.size
    · rw[if_neg hxn] at hx
      exact ((h.tab x e hx).same hoff.size fun i hi=>hYY i (.inl hi)).mono (fun i hi=> .inl hi) fun i hi=>Nat.lt_of_lt_of_le (hYl i hi).1 hoff.size
theorem z3j (h : DkF wb w g F σ K) {m:Man} {ao:Option Addr} {cap:Nat} (hG:Grid w ao m.L.length cap m.L) (hsum:m.L.flatten.length≤1000000000) (hwf: ∀x∈m.L.flatten,(Lit.int .i64 x).wf=true) (hs0:0≤m.sd) (hs1:m.sd<18446744073709551616) (rate:Nat):
    Calls Tryz.prog 57 #[.pointer (some ⟨g,0,none⟩),.agg #[.int .i64 m.nx,.int .i64 m.ck,.int .u64 m.sd,.slice ao m.L.length cap],.float .f64 rate] w (q8y wb w g m rate K σ):=by
  have HD:=Lib.hid h
  have hx1:=q0C w (.cells #[.int .i64 m.nx,.int .i64 m.ck,.int .u64 m.sd,.slice ao m.L.length cap] 45)
  have hbk:=Blk.new w 45 #[.int .i64 m.nx,.int .i64 m.ck,.int .u64 m.sd,.slice ao m.L.length cap]
  have HSz:=Lib.hid (q4b (h.d.ext hx1) [] (by decide))
  have hc: ∃z c,q1B σ []=(z,c)∧(c==1)=false∧((c==61)=σ.down)∧(σ.down=true→c=61):=by
    unfold q1B
    cases σ.down with
    |true=>exact ⟨_,_,rfl,rfl,rfl,fun _=>rfl⟩
    | false=>
      simp only[Bool.false_eq_true,if_false]
      split
      · exact ⟨_,_,rfl,rfl,rfl,fun h=>by cases h⟩
      · exact ⟨_,_,rfl,rfl,rfl,fun h=>by cases h⟩
  obtain ⟨z,c,hz,hc1,hc2,hc3⟩:=hc
  rw[hz] at HSz
  have HV:=Lib.hid (q7y m.nx m.ck m.sd ao m.L.length cap m.L _ (hG.ext hx1) (by omega) hwf)
  have HG:=Lib.hid hG
  have HX1:=Lib.hid hx1;have HBk:=Lib.hid hbk
  obtain ⟨w1,hw1⟩: ∃w1,w.alloc (.cells #[.int .i64 m.nx,.int .i64 m.ck,.int .u64 m.sd,.slice ao m.L.length cap] 45)=w1:=⟨_,rfl⟩
  rw[hw1] at HSz HV HX1 HBk
  obtain ⟨p,hp⟩: ∃p,w.heap.size=p:=⟨_,rfl⟩
  have HP:=Lib.hid hp
  rw[hp] at HBk
  have b0:w1.cell? ⟨p,0,none⟩=some (.int .i64 m.nx):=HBk.out.cell 0
  have b1:w1.cell? ⟨p,1,none⟩=some (.int .i64 m.ck):=HBk.out.cell 1
  have b2:w1.cell? ⟨p,2,none⟩=some (.int .u64 m.sd):=HBk.out.cell 2
  have b3:w1.cell? ⟨p,3,none⟩=some (.slice ao m.L.length cap):=HBk.out.cell 3
  have hmm:=@run_makeMap Tryz.prog
  clear h hx1 hbk hz hG
  cases hv:q0T m.nx m.ck m.L with
  | false=>
    rw[hv] at HV
    have HVv:=Lib.hid hv
    clear hv
    go_enter Tryz.func57,Tryz.ntmps57
    go_wp2_with fail
    refine HSz.out.mono ?_
    rintro e w2 ⟨rfl,rfl⟩
    go_wp2_with fail
    refine HV.out.mono ?_
    rintro e w2 ⟨rfl,hb2⟩
    have HX2:=Lib.hid (HX1.out.trans hb2)
    clear hb2
    go_wp2_with fail
    go_ret2
    exact .inl ⟨HVv.out,rfl,⟨F,HD.out.grow HX2.out⟩,fun i hi=>HX2.out.block i (HD.out.k i hi).1⟩
  | true =>
    rw[hv] at HV
    have HVv:=Lib.hid hv
    clear hv
    cases hdn:σ.down with
    | true=>
      rw[hdn] at hc2
      obtain rfl:=hc3 hdn
      have HDn:=Lib.hid hdn
      clear hdn hc3
      go_enter Tryz.func57,Tryz.ntmps57
      go_wp2_with fail
      refine HSz.out.mono ?_
      rintro e w2 ⟨rfl,rfl⟩
      go_wp2_with fail
      refine HV.out.mono ?_
      rintro e w2 ⟨rfl,hb2⟩
      have HX2:=Lib.hid (HX1.out.trans hb2)
      clear hb2
      go_wp2_with fail
      go_ret2
      exact .inr (.inl ⟨HVv.out,HDn.out,rfl,⟨F,HD.out.grow HX2.out⟩,fun i hi=>HX2.out.block i (HD.out.k i hi).1⟩)
    | false =>
      rw[hdn] at hc2
      have HDn:=Lib.hid hdn
      have hman:m.ok:=⟨HVv.out,hs0,hs1⟩
      have hbd:=Man.bounds hman
      clear hdn hc3
      go_enter Tryz.func57,Tryz.ntmps57
      go_wp2_with fail
      refine HSz.out.mono ?_
      rintro e w2 ⟨rfl,rfl⟩
      go_wp2_with fail
      refine HV.out.mono ?_
      rintro e w2 ⟨rfl,hb2⟩
      have HX2:=Lib.hid (HX1.out.trans hb2)
      have b0:=q0A hb2 b0;have b1:=q0A hb2 b1;have b2:=q0A hb2 b2;have b3:=q0A hb2 b3
      have HBk2:=Lib.hid (HBk.out.ext hb2)
      clear hb2
      go_wp2_with fail
      refine (q8F m.nx m.ck m.sd ao m.L.length cap m.L w2 (HG.out.ext HX2.out) (fun i=>by have:=hbd.2.2.1 i;omega) (by omega)).mono ?_
      rintro e w3 ⟨v3,vs3,rfl,hog3,hb3⟩
      have HOg:=Lib.hid hog3
      have HX3:=Lib.hid hb3
      obtain ⟨a3,k3,rfl⟩:=hog3.own.slice
      clear hog3 hb3
      go_wp2_with fail
      refine (z8U w3).mono ?_
      rintro e w4 ⟨gm,rfl,hmem,hgm,hb4⟩
      have HMm:=Lib.hid hmem;have HX4:=Lib.hid hb4
      have b3:=q0A hb4 (q0A HX3.out b3)
      clear hmem hb4
      obtain ⟨WX,hWX⟩: ∃WX,(w4.alloc (.map #[] 0)).alloc (.cells #[.pointer (some ⟨g,0,none⟩),.int .i64 m.nx,.int .i64 m.ck,.int .u64 m.sd,.slice a3 m.L.length k3,.float .f64 rate,.pointer (some ⟨gm,0,none⟩),.map (some w4.heap.size)] 131)=WX:=⟨_,rfl⟩
      have HX5:Hid (Ext w4 WX):=Lib.hid (hWX▸q2E _ _ _)
      have HBI:Hid (Blk WX (w4.heap.size+1) 131 #[.pointer (some ⟨g,0,none⟩),.int .i64 m.nx,.int .i64 m.ck,.int .u64 m.sd,.slice a3 m.L.length k3,.float .f64 rate,.pointer (some ⟨gm,0,none⟩),.map (some w4.heap.size)]):=Lib.hid (by
        have h:=Blk.new (w4.alloc (.map #[] 0)) 131 #[.pointer (some ⟨g,0,none⟩),.int .i64 m.nx,.int .i64 m.ck,.int .u64 m.sd,.slice a3 m.L.length k3,.float .f64 rate,.pointer (some ⟨gm,0,none⟩),.map (some w4.heap.size)]
        rw[World.size_alloc,hWX] at h
        exact h)
      have HMP:Hid (WX.ownsMap Tryz.prog 3 q4W w4.heap.size 0 (.map [])):=Lib.hid (hWX▸(World.ownsMap_made (H:=Unit) w4 Tryz.prog 3 q4W).alloc _)
      have HSX:Hid (WX.heap.size=w4.heap.size+2):=Lib.hid (by rw[←hWX,World.size_alloc,World.size_alloc])
      have b3X:=q0A HX5.out b3
      have HXX:=Lib.hid (((HX2.out.trans HX3.out).trans HX4.out).trans HX5.out)
      have hgX:gm<w4.heap.size:=HMm.out.blk.lt
      have HIx:Hid (IxK wb WX g (w4.heap.size+1) ⟨m,rate,[],(fun _=>none),0⟩ σ K):=Lib.hid (by
        have hD:=HD.out
        have hsz2:=HX2.out.size;have hsz3:=HX3.out.size;have hsz4:=HX4.out.size
        have hwb:=hD.ext.size
        have hog:OGr WX w2.heap.size 80 3 (.slice a3 m.L.length k3) vs3 m.L:=(HOg.out.ext HX4.out).ext HX5.out
        have hlt: ∀i,((Value.slice a3 m.L.length k3).ownBlock=some i∨ ∃q,(vs3.getD q (.slice none 0 0)).ownBlock=some i)→w2.heap.size≤i∧i<w3.heap.size:=fun i hi=>q5f HOg.out i hi
        refine ⟨F,gm,w4.heap.size,fun i=>((Value.slice a3 m.L.length k3).ownBlock=some i∨ ∃q,(vs3.getD q (.slice none 0 0)).ownBlock=some i),⟨hD.d.ext HXX.out,⟨⟨hman,okM.nil,Nat.zero_le _⟩,.slice a3 m.L.length k3,vs3,.slice none 0 0,.map [],0,⟨HBI.out,HMm.out.ext HX5.out,q6A hog (Nat.zero_le _),HMP.out,Nat.le_refl _,fun n=>rfl,fun n e he=>(by cases he),fun i hi=>?_,fun i hi=>Nat.lt_of_lt_of_le (hlt i hi).2 (by have:=HX5.out.size;omega),fun i hi hx=>?_,⟨by omega,by omega,by omega⟩⟩⟩,fun i hi=>?_⟩,hD.bF,fun i hi=>?_,fun i hi=>by have:=hlt i hi;omega,hD.ext.trans HXX.out,fun i hi=>?_⟩
        · rcases hi with hi|hi|hi
          · exact .inl hi
          · exact .inr hi
          · cases hi
        · have h1:=hlt i hi
          rcases hx with rfl|rfl|rfl<;>omega
        · have h1:=hD.d.Flt i hi
          exact ⟨fun hx=>by rcases hx with rfl|rfl|rfl<;>omega,fun hy=>by have:=hlt i hy;omega⟩
        · rcases hi with rfl|rfl|rfl<;>omega
        · have h1:=hD.k i hi
          have h2:=HXX.out.size
          exact ⟨by omega,h1.2,fun hx=>by rcases hx with rfl|rfl|rfl<;>omega,fun hy=>by have:=hlt i hy;omega⟩)
      have HAl:=Lib.hid (z4I ao m.L.length cap m.L WX (HG.out.ext HXX.out) (by omega))
      have hSt: ∀i,K i→i<w.heap.size:=fun i hi=>(HD.out.k i hi).1
      have HStX:Hid (Stay K w WX):=Lib.hid fun i hi=>HXX.out.block i (hSt i hi)
      clear hmm
      have hmm:=@run_makeMap Tryz.prog
      go_wp2_with fail
      refine HAl.out.mono ?_
      rintro e w5 ⟨va,rfl,hall,hb5⟩
      obtain ⟨aa,ka,rfl⟩:=hall.slice
      obtain ⟨ns,hns⟩: ∃ns,m.L.flatten=ns:=⟨_,rfl⟩
      have HNs:=Lib.hid hns
      rw[hns] at hall
      have HL0:=Lib.hid (LsW.start HIx.out (W:=w5) hb5 hall)
      rw[hns]
      obtain ⟨R,hR⟩: ∃R,q2l σ ns (fun _=>none)=R:=⟨_,rfl⟩
      have HR:=Lib.hid hR
      have HFin:Hid (∀e w',((R.2.1≠0∧e= .returned (.tuple #[.pointer none,.int .i64 R.2.1])∧DkX wb w' g R.2.2 K∧Stay K WX w')∨(R.2.1=0∧ ∃gx t,e= .returned (.tuple #[.pointer (some ⟨gx,0,none⟩),.int .i64 0])∧IxK wb w' g gx ⟨m,rate,[],t,ns.length⟩ R.2.2 K∧Stay K WX w'∧ ∀n,(t n).map TE.L=R.1 n))→q8y wb w g m rate K σ e w'):=Lib.hid (by
        intro e w' h
        unfold q8y
        rw[hns,hR]
        rcases h with ⟨q1,q2,q3,q4⟩|⟨q1,gx,t,q2,q3,q4,q5⟩
        · exact .inr (.inr (.inl ⟨HVv.out,HDn.out,q1,q2,q3,HStX.out.trans q4⟩))
        · exact .inr (.inr (.inr ⟨HVv.out,HDn.out,q1,gx,t,q2,q3,HStX.out.trans q4,q5⟩)))
      obtain ⟨n,hn⟩: ∃n,ns.length=n:=⟨_,rfl⟩
      have HNl:=Lib.hid hn
      have hn40:n≤40:=by rw[←hn,←hns];exact hbd.2.1
      have HBd:=Lib.hid hbd
      obtain ⟨gx,hgx⟩: ∃gx,w4.heap.size+1=gx:=⟨_,rfl⟩
      rw[hn] at HL0
      rw[hgx] at HL0
      rw[hn]
      simp only[hgx]
      clear hall hb5 hns hn HAl HX1 HX2 HX3 HX4 HX5 HBI HMP HSX b3X b0 b1 b2 b3 HXX HIx HMm HOg hmm hR hbd HV HSz HG HBk HBk2 HP HStX hc1 hc2 hWX hgX hgm hgx
      go_wp2_with fail
      go_loopw [44] (fun i W=> ∃(k:Nat) (t:Int→Option TE) (acc:Int→Option (List En)) (τ:DM),k≤n∧i= .int .i64 (k:Int)∧LsW wb WX W g gx ⟨m,rate,[],t,k⟩ τ K (.slice aa n ka) (.slice none 0 0) [] ns [] WX.heap.size∧(∀x,(t x).map TE.L=acc x)∧q2l τ (ns.drop k) acc=R) (fun i _=>n-(intOf i).toNat)
      case atStart=>exact ⟨0,fun _=>none,fun _=>none,σ,Nat.zero_le _,rfl,HL0.out,fun x=>rfl,HR.out⟩
      case round =>
        obtain ⟨k,tt,acc,τ,hk,rfl,hls,htt,hrr⟩:=hrel
        have HL:=Lib.hid hls;have HRr:=Lib.hid hrr;have HTt:=Lib.hid htt
        clear hls hrr htt
        by_cases hlt:k<n
        · have hd:decide ((k:Int)<(n:Int))=true:=decide_eq_true (by omega)
          have q1:IntKind.i64.wrap ((k:Int)+1)=(k:Int)+1:=by rw[IntKind.wrap_i64];omega
          have q5:(k:Int)<(n:Int):=by omega
          obtain ⟨_,_,ea,hia⟩:=q3P HL.out.all
          rw[HNl.out] at ea
          cases ea
          rw[HNl.out] at hia
          obtain ⟨ba,oa,rfl,n0⟩:=hia.at hlt
          have hkl:k<ns.length:=by rw[HNl.out];exact hlt
          have hdrop:ns.drop k=ns.getD k 0::ns.drop (k+1):=by
            rw[List.drop_eq_getElem_cons hkl,List.getD_eq_getElem?_getD,List.getElem?_eq_getElem hkl];rfl
          have hmem:ns.getD k 0∈m.L.flatten:=by rw[HNs.out];exact q5u ns k hkl
          have hrr:=HRr.out
          rw[hdrop] at hrr
          have hwf2:=(HBd.out.2.2.2.1 _ hmem).1
          generalize ns.getD k 0=nk at*
          rw[q2l] at hrr
          obtain ⟨F2,gm2,gt2,Y2,h2⟩:=HL.out.i
          have HOp:=Lib.hid (z4b h2.i.d nk)
          have HF2:=Lib.hid h2
          obtain ⟨r,hr⟩: ∃r,q3s τ nk=r:=⟨_,rfl⟩
          rw[hr] at hrr HOp
          obtain ⟨o,c,τ2⟩:=r
          clear hia hdrop hmem h2
          cases o with
          | none=>
            simp only at hrr
            have hc:=q8V hr
            have g2:(c !=0)=true:=by simpa using hc
            have HRR:=Lib.hid hrr
            have HC:=Lib.hid hc
            clear hr hrr hc
            go_wp2_with fail
            refine HOp.out.mono ?_
            rintro e3 w3 ⟨rfl,hd3⟩
            obtain ⟨h3,hst3⟩:=HF2.out.disk hd3
            have HE:Hid (q8y wb w g m rate K σ (.returned (.tuple #[.pointer none,.int .i64 c])) w3):=Lib.hid (HFin.out _ _ (.inl (by
              rw[←HRR.out]
              exact ⟨HC.out,rfl,⟨_,h3.i.d,h3.bF,h3.ext,fun i hi=>⟨(h3.k i (.inl hi)).1,(h3.k i (.inl hi)).2.1⟩⟩,HL.out.stay.trans fun i hi=>hst3 i (.inl hi)⟩)))
            clear hd3 h3 hst3
            go_wp2_with fail
            go_ret2
            exact HE.out
          | some L=>
            simp only at hrr
            obtain rfl:=q7X hr
            have HRR:=Lib.hid hrr
            clear hr hrr
            go_wp2_with fail
            refine HOp.out.mono ?_
            rintro e3 w7 ⟨t,may,T,w6,rfl,hd3,hx7,htb,hT⟩
            obtain ⟨h3,hst3⟩:=HF2.out.disk hd3
            have h7:=h3.grow hx7
            have hst7:Stay (fun i=>K i∨z8a (.slice (some ⟨ba,oa,none⟩) n ka) (.slice none 0 0) [] i) wr w7:=hst3.trans (h3.kExt hx7)
            obtain ⟨hok7,v7,vs7,vm7,D7,nn7,hi7⟩:=h7.i.x
            have c7:=hi7.c7
            have hcn:=hi7.cnt
            simp only at hcn
            obtain ⟨w8,hup,hO8,hg8⟩:=hi7.map.update Tryz.keyInt Tryz.underlying129 (by unfold maxLen;omega) (keyOf_int_mk Tryz.underlying3 hwf2) (q8P t)
            have hoff8:OffS (fun i=>i=gt2) w7 w8:=OffS.grown hg8 fun i hi=>by injection hi with hi;exact hi.symm
            have hTX: ∀i,T i→¬InX gx gm2 gt2 i:=fun i hi hx=>by have:=hT i hi;have:=h3.i.x.xlt i hx;omega
            have hix:=hi7.putO hO8 hoff8 htb hTX
            obtain ⟨h8,hst8⟩:=h7.turnV (K:=fun i=>K i∨z8a (.slice (some ⟨ba,oa,none⟩) n ka) (.slice none 0 0) [] i) (st1:=⟨m,rate,[],(fun x=>if x=nk then some ⟨t,L,may⟩ else tt x),k+1⟩) (Y1:=fun i=>Y2 i∨T i) ⟨⟨hman,okM.nil,by show k+1≤1000000;omega⟩,_,_,_,_,_,hix⟩ (hoff8.mono fun i _ hi=> .inr (.inr hi)) (fun i hi=>by
              rcases hi with hi|hi
              · exact ⟨h7.bY i hi,fun hf=>(h7.i.ap i hf).2 hi⟩
              · have h9:=hT i hi
                exact ⟨by have:=h3.ext.size;omega,fun hf=>by have:=h3.i.d.Flt i hf;omega⟩) (fun i hi=>⟨hi,fun hy=>by
              rcases hy with hy|hy
              · exact (h7.k i hi).2.2.2 hy
              · have:=hT i hy;have:=(h3.k i hi).1;omega⟩)
            have HL8:=Lib.hid (HL.out.step ⟨_,_,_,_,h8⟩ (hst7.trans hst8) (by have:=hd3.off.size;have:=hx7.size;have:=hoff8.size;omega))
            have HTt2:Hid (∀x,(if x=nk then some (⟨t,L,may⟩:TE) else tt x).map TE.L=if x=nk then some L else acc x):=Lib.hid fun x=>by
              by_cases hx:x=nk
              · rw[if_pos hx,if_pos hx];rfl
              · rw[if_neg hx,if_neg hx];exact HTt.out x
            have HUp:=Lib.hid hup
            clear hd3 h3 hst3 h7 hst7 hok7 hi7 hO8 hg8 hoff8 hTX hix h8 hst8 htb hT hx7 hcn
            go_wp2_with fail
            go_roundw
            case rel=>exact ⟨k+1,_,_,τ2,hlt,by go_num,HL8.out,HTt2.out,HRR.out⟩
            case measure=>simp[intOf];omega
        · obtain rfl:k=n:=by omega
          have hd:decide ((k:Int)<(k:Int))=false:=decide_eq_false (by omega)
          have hrr:=HRr.out
          rw[List.drop_of_length_le (by rw[HNl.out];exact Nat.le_refl _),q2l] at hrr
          have HE:Hid (q8y wb w g m rate K σ (.returned (.tuple #[.pointer (some ⟨gx,0,none⟩),.int .i64 0])) wr):=Lib.hid (HFin.out _ _ (.inr (by
            rw[←hrr]
            exact ⟨rfl,gx,tt,rfl,by rw[HNl.out];exact HL.out.i.beside fun i hi=> .inl hi,HL.out.stay,HTt.out⟩)))
          clear hrr
          go_wp2_with fail
          go_ret2
          exact HE.out
end
end Go.Proofs.YtmajfklnagdlpaaGreatDoor
