/- Plain laws. -/
import Derived.Test.YtjjfiejoeelndaaGreatDoorG41Bp
set_option linter.unusedVariables false
set_option linter.unusedSimpArgs false
set_option maxRecDepth 100000
set_option maxHeartbeats 12800000
namespace Go.Proofs.YtjjfiejoeelndaaGreatDoor
theorem η42 {p:Prop} (h:p):Go.RowKit.Hid p:=Lib.hid h
section
open Go.RowKit
theorem q1m {c c':UInt8} (hc:q2D c=true) (hc':q2D c'=true) {n m:Int} (hn:0≤n∧n≤999999) (hm:0≤m∧m≤999999) (h:q0B c n=q0B c' m):c=c'∧n=m:=by
 have h1:=q2N hc hn;rw[h,q2N hc' hm] at h1;injection h1 with h1 h2;injection h2 with h2 _;exact ⟨h1.symm,by omega⟩
theorem q8y :q2D 116=true:=by decide
theorem z8u :q2D 98=true:=by decide
theorem y2E :q2D 99=true:=by decide
theorem q3Y {k:Nat} (hk:k≤999999):q0B 99 (k:Int)≠mapN∧q0B 99 (k:Int)≠q2g:=by
 rw[q0W (by omega)];exact ⟨fun e=>absurd (List.cons.inj e).1 (by decide),fun e=>absurd (List.cons.inj e).1 (by decide)⟩
theorem q3L {c:UInt8} (hc:c=116∨c=98) {n:Int} (hn:0≤n∧n≤999999):q0B c n≠mapN∧q0B c n≠q2g:=by
 rw[q0W hn];rcases hc with rfl|rfl
 ·exact ⟨fun e=>absurd (List.cons.inj e).1 (by decide),fun e=>absurd (List.cons.inj e).1 (by decide)⟩
 ·exact ⟨fun e=>absurd (List.cons.inj e).1 (by decide),fun e=>absurd (List.cons.inj e).1 (by decide)⟩
section
variable {st :IxSt} {σ σ':DM} {c s:Int} {φ:Fls} {u cnt:Nat} {B:List En}
theorem PInv.fresh (h:PInv st σ c s φ u cnt B) {n:Int} (hn:0≤n∧n≤999999) (hf:n∉st.m.L.flatten):φ (q0B 116 n)=none∧φ (q0B 98 n)=none:=by
 have hh: ∀c':UInt8,c'=116∨c'=98→φ (q0B c' n)=none:=fun c' hc=>by
  cases he:φ (q0B c' n) with
  |none=>rfl
  | some y=>
   exfalso
   have hl:q2D c'=true:=by rcases hc with rfl|rfl<;>decide
   rcases h.only (q0B c' n) (by rw[he];simp) with e|⟨m,hm,e|e⟩|⟨k,hk,e⟩
   ·exact (q3L hc hn).1 e
   ·have hr:=h.range hm
    exact hf ((q1m hl q8y hn (by omega) e).2▸hm)
   ·have hr:=h.range hm
    exact hf ((q1m hl z8u hn (by omega) e).2▸hm)
   ·have e9:=(q1m hl y2E hn (by omega) e).1
    rcases hc with rfl|rfl<;>exact absurd e9 (by decide)
 exact ⟨hh 116 (.inl rfl),hh 98 (.inr rfl)⟩
theorem PInv.noNew (h:PInv st σ c s φ u cnt B):φ q2g=none:=by
 cases he:φ q2g with
 |none=>rfl
 | some y=>
  exfalso
  rcases h.only q2g (by rw[he];simp) with e|⟨m,hm,e|e⟩|⟨k,hk,e⟩
  ·exact new_ne_map e
  ·have hr:=h.range hm
   exact (q3L (.inl rfl) (show 0≤m∧m≤999999 by omega)).2 e.symm
  ·have hr:=h.range hm
   exact (q3L (.inr rfl) (show 0≤m∧m≤999999 by omega)).2 e.symm
  ·exact (q3Y hk).2 e.symm
def q4R (φ:Fls) (n:Int) (f tab S:List UInt8):Fls:=q6V (q6V (q6V φ (q0B 98 n) f) (q0B 116 n) tab) mapN S
theorem z2k (φ:Fls) {n:Int} (hn:0≤n∧n≤999999) (f tab S:List UInt8):q4R φ n f tab S (q0B 116 n)=some tab∧q4R φ n f tab S (q0B 98 n)=some f:=by
 unfold q4R q6V;refine ⟨?_,?_⟩
 ·simp[(q3L (.inl rfl) hn).1]
 ·simp[(q3L (.inr rfl) hn).1,(q3b n n hn hn).symm]
theorem q9M (φ:Fls) {n m:Int} (hn:0≤n∧n≤999999) (hm:0≤m∧m≤999999) (hne:m≠n) (f tab S:List UInt8):q4R φ n f tab S (q0B 116 m)=φ (q0B 116 m)∧q4R φ n f tab S (q0B 98 m)=φ (q0B 98 m):=by
 unfold q4R q6V;rw[if_neg (q3L (.inl rfl) hm).1,if_neg (fun e=>hne (q1m q8y q8y hm hn e).2),if_neg (q3b m n hm hn),if_neg (q3L (.inr rfl) hm).1,if_neg (fun e=>(q3b n m hn hm) e.symm),if_neg (fun e=>hne (q1m z8u z8u hm hn e).2)];exact ⟨rfl,rfl⟩
theorem z0H {φ:Fls} {n:Int} {f tab S nm:List UInt8} (h:q4R φ n f tab S nm≠none):nm=mapN∨nm=q0B 116 n∨nm=q0B 98 n∨φ nm≠none:=by
 unfold q4R q6V at h;by_cases h1:nm=mapN
 ·exact .inl h1
 ·rw [if_neg h1] at h
  by_cases h2:nm=q0B 116 n
  ·exact .inr (.inl h2)
  ·rw [if_neg h2] at h
   by_cases h3:nm=q0B 98 n
   ·exact .inr (.inr (.inl h3))
   ·rw[if_neg h3] at h
    exact .inr (.inr (.inr h))
theorem PInv.flush (h:PInv st σ c s φ u cnt B) {L2:List (List Int)} {en:Int} {f:List UInt8} (ha:addS st.m.L st.m.nx=(L2,0)) (hen:0≤en∧en≤2147483647) (hnx:st.m.nx<1000000) (hcn:cnt<397):
  (∃ σ',q2H σ (st.m.add L2 en) st.m.nx st.w f=(0,some st.w,σ')∧ ∀b may,(∀x∈st.w,may x.1=true)→
   PInv {st.put (st.m.add L2 en) st.m.nx ⟨b,st.w,may⟩ with w:=[]} σ' c s (q4R φ st.m.nx f (q2Q st.w) (st.m.add L2 en).S) (u+f.length+(q2Q st.w).length+300) (cnt+3) B)∨
   ∃σ',q2H σ (st.m.add L2 en) st.m.nx st.w f=(60,none,σ')∧PInv st σ' c s φ (u+f.length+(q2Q st.w).length+300) (cnt+3) B∧c-(u:Int)-((q2Q st.w).length:Int)-(f.length:Int)-300<6000:=by
 have hb:=Man.bounds h.man;have hnn:0≤st.m.nx∧st.m.nx≤999999:=by omega
 obtain ⟨a1,a2,a3,a4,a5⟩:=z5D (L:=st.m.L) (x:=st.m.nx) (by rw[ha]);rw[ha] at a3 a4;simp only at a3 a4;have hg:=h.grow;have hcast:((st.m.nx.toNat:Nat):Int)=st.m.nx:=by omega
 have hlt40:st.m.L.flatten.length<40:=by
  rcases Nat.lt_or_ge st.m.L.flatten.length 40 with h1|h1
  ·exact h1
  ·have h2:=hg.addS
   rw[hcast,if_pos h1,ha] at h2;injection h2 with _ h2
   cases h2
 have hga:=(hg.add hlt40).1;rw[hcast,←a3] at hga;have hmv:q0Z (st.m.add L2 en).nx (st.m.add L2 en).ck (st.m.add L2 en).L=true:=by
  unfold q0Z Man.add;simp only[Bool.and_eq_true,decide_eq_true_eq,List.all_eq_true];exact ⟨⟨⟨by omega,by omega,hen.1,hen.2⟩,hga.1⟩,fun x hx=>by have:=hga.2 x hx;push_cast at this;omega⟩
 obtain ⟨f1,f2⟩:=h.fresh hnn a1;rcases h.fl.turn (m:=st.m.add L2 en) hmv hnn h.okw.sort ((q2Z _).2 h.okw.sort) h.okw.ok h.okw.len (f:=f) f1 f2 h.noNew hcn with ⟨σ',e,hfl⟩|⟨σ',e,hfl,hr⟩
 case inr=>exact .inr ⟨σ',e,⟨hfl,h.man,h.full,h.tb,h.only,h.okw,h.okB,h.mem⟩,hr⟩
 refine .inl ⟨σ',e,fun b may hth=>⟨hfl,⟨hmv,h.man.2⟩,fun x hx=>?_,fun n e2 he=>?_,fun nm hnm=>?_,okM.nil,h.okB,fun x=>?_⟩⟩
 ·exact (IxSt.put_full (m:=st.m.add L2 en) (n:=st.m.nx) (e:=⟨b,st.w,may⟩) h.full (fun y hy=>((a4 y).1 hy).symm)) x hx
 ·unfold IxSt.put at he
  simp only at he;by_cases hne:n=st.m.nx
  ·rw[if_pos hne] at he
   injection he with he;subst he;subst hne;obtain ⟨t1,t2⟩:=z2k φ hnn f (q2Q st.w) (st.m.add L2 en).S;exact ⟨(a4 _).2 (.inr rfl),t1,⟨_,t2⟩,h.okw,hth⟩
  ·rw[if_neg hne] at he
   obtain ⟨t0,t1,⟨y,t2⟩,t3,t4⟩:=h.tb n e2 he;have hr2:=h.range t0;obtain ⟨o1,o2⟩:=q9M φ hnn (m:=n) (by omega) hne f (q2Q st.w) (st.m.add L2 en).S;exact ⟨(a4 n).2 (.inl t0),by rw[o1];exact t1,⟨y,by rw[o2];exact t2⟩,t3,t4⟩
 ·rcases z0H hnm with e1|e1|e1|e1
  ·exact .inl e1
  ·exact .inr (.inl ⟨st.m.nx,(a4 _).2 (.inr rfl),.inl e1⟩)
  ·exact .inr (.inl ⟨st.m.nx,(a4 _).2 (.inr rfl),.inr e1⟩)
  ·rcases h.only nm e1 with e2|⟨n,hn,e2⟩|e2
   ·exact .inl e2
   ·exact .inr (.inl ⟨n,(a4 n).2 (.inl hn),e2⟩)
   ·exact .inr (.inr e2)
 ·rw [h.mem x]
  unfold IxSt.put;simp only
  constructor
  ·rintro (h1|⟨n,e2,he,h1⟩)
   ·exact .inr ⟨st.m.nx,_,if_pos rfl,h1⟩
   ·have hne:n≠st.m.nx:=fun e3=>by
     have:=h.range (h.tb n e2 he).1;omega
    exact .inr ⟨n,e2,by rw[if_neg hne];exact he,h1⟩
  ·rintro (h1|⟨n,e2,he,h1⟩)
   ·cases h1
   ·by_cases hne:n=st.m.nx
    ·rw[if_pos hne] at he
     injection he with he;subst he;exact .inl h1
    ·rw[if_neg hne] at he
     exact .inr ⟨n,e2,he,h1⟩
def q8R (φ:Fls):List Int→Fls
 |[]=>φ
 |n::ns=>q8R (q9O (q9O φ (q0B 116 n)) (q0B 98 n)) ns
theorem q4F (nm:List UInt8): ∀(ns:List Int) (φ:Fls),(∀n∈ns,nm≠q0B 116 n∧nm≠q0B 98 n)→q8R φ ns nm=φ nm
 |[],φ,_=>rfl
 | n::ns,φ,h=>by
  rw[q8R,q4F nm ns _ fun m hm=>h m (by simp[hm])];unfold q9O;rw[if_neg (h n (by simp)).2,if_neg (h n (by simp)).1]
theorem z0E (nm:List UInt8): ∀(ns:List Int) (φ:Fls),q8R φ ns nm≠none→φ nm≠none∧ ∀n∈ns,nm≠q0B 116 n∧nm≠q0B 98 n
 |[],φ,h=>⟨h,fun n hn=>by cases hn⟩
 | n :: ns,φ,h=>by
  rw[q8R] at h;obtain ⟨h1,h2⟩:=z0E nm ns _ h;unfold q9O at h1;by_cases e1:nm=q0B 98 n
  ·rw[if_pos e1] at h1;exact absurd rfl h1
  ·rw [if_neg e1] at h1
   by_cases e2:nm=q0B 116 n
   ·rw[if_pos e2] at h1;exact absurd rfl h1
   ·rw[if_neg e2] at h1
    refine ⟨h1,fun m hm=>?_⟩;rcases List.mem_cons.1 hm with e|hm
    ·subst e;exact ⟨e2,e1⟩
    ·exact h2 m hm
theorem Fl.drops : ∀(ns:List Int) {σ:DM} {φ:Fls},Fl σ c s φ u cnt→ns.Nodup→(∀n∈ns,(0≤n∧n≤999999)∧(∃x,φ (q0B 116 n)=some x)∧ ∃y,φ (q0B 98 n)=some y)→ ∃σ',q3d σ ns=(0,σ')∧Fl σ' c s (q8R φ ns) u cnt
 |[],σ,φ,h,_,_=>⟨σ,rfl,h⟩
 | n :: ns,σ,φ,h,hnd,hh=>by
  obtain ⟨hn1,hn2⟩:=List.nodup_cons.1 hnd;obtain ⟨hn,⟨x,hx⟩,⟨y,hy⟩⟩:=hh n (by simp);obtain ⟨σ1,e1,p1⟩:=h.drop hn hx hy;obtain ⟨σ2,e2,p2⟩:=Fl.drops ns p1 hn2 fun m hm=>by
   obtain ⟨hm0,⟨x',hx'⟩,⟨y',hy'⟩⟩:=hh m (by simp[hm]);have hne:m≠n:=fun e=>hn1 (e▸hm)
   refine ⟨hm0,⟨x',?_⟩,⟨y',?_⟩⟩
   ·unfold q9O
    rw[if_neg (q3b m n hm0 hn),if_neg (fun e=>hne (q1m q8y q8y hm0 hn e).2)];exact hx'
   ·unfold q9O
    rw[if_neg (fun e=>hne (q1m z8u z8u hm0 hn e).2),if_neg (fun e=>(q3b n m hn hm0) e.symm)];exact hy'
  refine ⟨σ2,?_,p2⟩;rw[q3d,e1];simp only;rw[if_neg (fun h=>h rfl)];exact e2
end
end
section
open Go.RowKit
section
variable {st :IxSt} {σ σ':DM} {c s:Int} {φ:Fls} {u cnt:Nat} {B:List En}
theorem PInv.unionLe (h:PInv st σ c s φ u cnt B) (ns:List Int):okM (q1P (ns.map (TL st)))∧(q1P (ns.map (TL st))).length≤B.length∧ ∀x∈q1P (ns.map (TL st)),x∈B:=by
 have hm: ∀x∈q1P (ns.map (TL st)),x∈B:=fun x hx=>by
  obtain ⟨L,hL,hx2⟩:=mem_union.1 hx;obtain ⟨n,hn,rfl⟩:=List.mem_map.1 hL;unfold TL at hx2
  cases he:st.t n with
  |none=>rw[he] at hx2;simp at hx2
  |some e=>rw[he] at hx2;exact (h.mem x).2 (.inr ⟨n,e,he,hx2⟩)
 have hl:=q4x (q5I (ns.map (TL st))) h.okB.sort hm;exact ⟨⟨q5I _,fun x hx=>h.okB.ok x (hm x hx),by have:=h.okB.len;omega⟩,hl,hm⟩
theorem PInv.merge (h:PInv st σ c s φ u cnt B) {lv:Int} {old:List Int} {L2:List (List Int)} {f:List UInt8} (hp:q0y st.m.L lv=(old,0)) (hrp:q0T st.m.L lv st.m.nx=(L2,0)) {U:List En} (hU:q1P (old.map (TL st))=U)
  (hnx:st.m.nx<1000000) (hcn:cnt<397):
  (∃ σ1 σ2,q2H σ (st.m.add L2 st.m.ck) st.m.nx U f=(0,some U,σ1)∧q3d σ1 old=(0,σ2)∧ ∀b may,(∀x∈U,may x.1=true)→
   PInv ((st.put (st.m.add L2 st.m.ck) st.m.nx ⟨b,U,may⟩).del old) σ2 c s (q8R (q4R φ st.m.nx f (q2Q U) (st.m.add L2 st.m.ck).S) old) (u+f.length+(q2Q U).length+300) (cnt+3) B)∨
   ∃σ1,q2H σ (st.m.add L2 st.m.ck) st.m.nx U f=(60,none,σ1)∧PInv st σ1 c s φ (u+f.length+(q2Q U).length+300) (cnt+3) B∧c-(u:Int)-((q2Q U).length:Int)-(f.length:Int)-300<6000:=by
 have hb:=Man.bounds h.man;have hnn:0≤st.m.nx∧st.m.nx≤999999:=by omega
 obtain ⟨p1,p2,p3,p4,p5⟩:=q5i (L:=st.m.L) (lv:=lv) (by rw[hp]);rw[hp] at p5;simp only at p5;obtain ⟨_,r2,r3⟩:=q5h hrp;have hperm:=(q7W hrp).1;rw[hp] at hperm;simp only at hperm;have hcast:((st.m.nx.toNat:Nat):Int)=st.m.nx:=by omega
 have hnf:st.m.nx∉st.m.L.flatten:=fun e=>r2 (.inr e)
 have hg:=(h.grow.rep (k:=lv.toNat) (by omega) p4).1;rw[hcast,←r3] at hg;have hndF:(st.m.L.flatten++[st.m.nx]).Nodup:=by
  rw[List.nodup_append];refine ⟨hb.2.2.2.2.2.2.1,by simp,fun a ha b hb'=>?_⟩;rw[List.mem_singleton.1 hb'];intro e;exact hnf (e▸ha)
 have hnd2:=hperm.nodup_iff.2 hndF;obtain ⟨nd1,nd2,nd3⟩:=List.nodup_append.1 hnd2;have holdm: ∀y∈old,y∈st.m.L.flatten:=fun y hy=>by
  rw[p5] at hy;rcases Nat.lt_or_ge lv.toNat st.m.L.length with hl|hl
  ·rw[List.getD_eq_getElem?_getD,List.getElem?_eq_getElem hl] at hy
   exact List.mem_flatten.2 ⟨_,List.getElem_mem hl,hy⟩
  ·rw[List.getD_eq_getElem?_getD,List.getElem?_eq_none hl] at hy
   cases hy
 have hmem2: ∀y,y∈L2.flatten↔(y∈st.m.L.flatten∧y∉old)∨y=st.m.nx:=fun y=>by
  have hm:=hperm.mem_iff (a:=y);rw[List.mem_append,List.mem_append,List.mem_singleton] at hm
  constructor
  ·intro hy
   have hno:y∉old:=fun e=>nd3 y hy y e rfl
   rcases hm.1 (.inl hy) with h1|h1
   ·exact .inl ⟨h1,hno⟩
   ·exact .inr h1
  ·rintro (⟨h1,h2⟩|h1)
   ·rcases hm.2 (.inl h1) with h3|h3
    ·exact h3
    ·exact absurd h3 h2
   ·rcases hm.2 (.inr h1) with h3|h3
    ·exact h3
    ·exact absurd (holdm y h3) (by rw[h1];exact hnf)
 have hmv:q0Z (st.m.add L2 st.m.ck).nx (st.m.add L2 st.m.ck).ck (st.m.add L2 st.m.ck).L=true:=by
  unfold q0Z Man.add;simp only[Bool.and_eq_true,decide_eq_true_eq,List.all_eq_true];exact ⟨⟨⟨by omega,by omega,by omega,by omega⟩,hg.1⟩,fun x hx=>by have:=hg.2 x hx;push_cast at this;omega⟩
 obtain ⟨f1,f2⟩:=h.fresh hnn hnf;obtain ⟨ou,_,hUB⟩:=h.unionLe old;rw[hU] at ou hUB;rcases h.fl.turn (m:=st.m.add L2 st.m.ck) hmv hnn ou.sort ((q2Z _).2 ou.sort) ou.ok ou.len (f:=f) f1 f2 h.noNew hcn with ⟨σ1,e1,hfl⟩|⟨σ1,e1,hfl,hr⟩
 case inr=>exact .inr ⟨σ1,e1,⟨hfl,h.man,h.full,h.tb,h.only,h.okw,h.okB,h.mem⟩,hr⟩
 have hrng: ∀y∈old,(0≤y∧y≤999999)∧y≠st.m.nx:=fun y hy=>by
  have:=h.range (holdm y hy);omega
 obtain ⟨σ2,e2,hfl2⟩:=Fl.drops old hfl nd2 (fun n hn=>by
  obtain ⟨e,he⟩:=h.full n (holdm n hn);obtain ⟨t0,t1,⟨y,t2⟩,_⟩:=h.tb n e he;obtain ⟨o1,o2⟩:=q9M φ hnn (hrng n hn).1 (hrng n hn).2 f (q2Q U) (st.m.add L2 st.m.ck).S;exact ⟨(hrng n hn).1,⟨_,o1.trans t1⟩,⟨y,o2.trans t2⟩⟩)
 have hkeep: ∀n,(0≤n∧n≤999999)→n∉old→q8R (q4R φ st.m.nx f (q2Q U) (st.m.add L2 st.m.ck).S) old (q0B 116 n)=q4R φ st.m.nx f (q2Q U) (st.m.add L2 st.m.ck).S (q0B 116 n)∧
   q8R (q4R φ st.m.nx f (q2Q U) (st.m.add L2 st.m.ck).S) old (q0B 98 n)=q4R φ st.m.nx f (q2Q U) (st.m.add L2 st.m.ck).S (q0B 98 n):=fun n hn hno=>by
  constructor
  ·exact q4F _ old _ fun y hy=>⟨fun e=>hno ((q1m q8y q8y hn (hrng y hy).1 e).2▸hy),q3b n y hn (hrng y hy).1⟩
  ·exact q4F _ old _ fun y hy=>⟨fun e=>q3b y n (hrng y hy).1 hn e.symm,fun e=>hno ((q1m z8u z8u hn (hrng y hy).1 e).2▸hy)⟩
 have hnxo:st.m.nx∉old:=fun e=>(hrng _ e).2 rfl
 refine .inl ⟨σ1,σ2,e1,e2,fun b may hth=>⟨hfl2,⟨hmv,h.man.2⟩,fun x hx=>?_,fun n e3 he=>?_,fun nm hnm=>?_,h.okw,h.okB,fun x=>?_⟩⟩
 ·unfold IxSt.del IxSt.put
  simp only;rcases (hmem2 x).1 hx with ⟨h1,h2⟩|h1
  ·obtain ⟨e,he⟩:=h.full x h1
   refine ⟨e,?_⟩;rw[if_neg h2,if_neg (fun e4:x=st.m.nx=>hnf (e4▸h1))];exact he
  ·exact ⟨_,by rw[if_neg (h1▸hnxo),if_pos h1]⟩
 ·unfold IxSt.del IxSt.put at he
  simp only at he;by_cases hno:n∈old
  ·rw[if_pos hno] at he;cases he
  ·rw [if_neg hno] at he
   by_cases hne:n=st.m.nx
   ·rw[if_pos hne] at he
    injection he with he;subst he;subst hne;obtain ⟨k1,k2⟩:=hkeep st.m.nx hnn hno;obtain ⟨t1,t2⟩:=z2k φ hnn f (q2Q U) (st.m.add L2 st.m.ck).S;exact ⟨(hmem2 _).2 (.inr rfl),k1.trans t1,⟨_,k2.trans t2⟩,ou,hth⟩
   ·rw[if_neg hne] at he
    obtain ⟨t0,t1,⟨y,t2⟩,t3,t4⟩:=h.tb n e3 he;have hr2:=h.range t0;obtain ⟨k1,k2⟩:=hkeep n (by omega) hno;obtain ⟨o1,o2⟩:=q9M φ hnn (m:=n) (by omega) hne f (q2Q U) (st.m.add L2 st.m.ck).S;exact ⟨(hmem2 n).2 (.inl ⟨t0,hno⟩),k1.trans (o1.trans t1),⟨y,k2.trans (o2.trans t2)⟩,t3,t4⟩
 ·obtain ⟨d1,d2⟩:=z0E nm old _ hnm
  rcases z0H d1 with e4|e4|e4|e4
  ·exact .inl e4
  ·exact .inr (.inl ⟨st.m.nx,(hmem2 _).2 (.inr rfl),.inl e4⟩)
  ·exact .inr (.inl ⟨st.m.nx,(hmem2 _).2 (.inr rfl),.inr e4⟩)
  ·rcases h.only nm e4 with e5|⟨n,hn,e5⟩|e5
   ·exact .inl e5
   ·have hno:n∉old:=fun e6=>by
     rcases e5 with e5|e5
     ·exact (d2 n e6).1 e5
     ·exact (d2 n e6).2 e5
    exact .inr (.inl ⟨n,(hmem2 n).2 (.inl ⟨hn,hno⟩),e5⟩)
   ·exact .inr (.inr e5)
 ·rw [h.mem x]
  unfold IxSt.del IxSt.put;simp only
  constructor
  ·rintro (h1|⟨n,e3,he,h1⟩)
   ·exact .inl h1
   ·by_cases hno:n∈old
    ·refine .inr ⟨st.m.nx,_,by rw[if_neg hnxo,if_pos rfl],?_⟩
     show x∈U;rw[←hU,mem_union];exact ⟨TL st n,List.mem_map.2 ⟨n,hno,rfl⟩,by rw[q2h he];exact h1⟩
    ·have hne:n≠st.m.nx:=fun e4=>hnf (e4▸(h.tb n e3 he).1)
     exact .inr ⟨n,e3,by rw[if_neg hno,if_neg hne];exact he,h1⟩
  ·rintro (h1|⟨n,e3,he,h1⟩)
   ·exact .inl h1
   ·by_cases hno:n∈old
    ·rw[if_pos hno] at he;cases he
    ·rw [if_neg hno] at he
     by_cases hne:n=st.m.nx
     ·rw[if_pos hne] at he
      injection he with he;subst he;have:=hUB x h1;exact (h.mem x).1 this
     ·rw[if_neg hne] at he
      exact .inr ⟨n,e3,he,h1⟩
def z4I (B:List En) (x u r:Int):Prop:=(∀y∈B,y.1=x→y.2.1≤u→y.2.1≤r)∧((r= -1)∨ ∃y∈B,y.1=x∧y.2.1≤u∧y.2.1=r)
theorem q7p {L:List En} (hs:q0u L) (x u:Int):z4I L x u (z6b L x u):=by
 unfold z6b q3M
 cases hl:(L.filter (inE x u)).getLast? with
 | none=>
  have:=List.getLast?_eq_none_iff.1 hl;refine ⟨fun y hy h1 h2=>?_,.inl rfl⟩;have:y∈L.filter (inE x u):=List.mem_filter.2 ⟨hy,by unfold inE;simp[h1,h2]⟩;rw[List.getLast?_eq_none_iff.1 hl] at this
  cases this
 | some e=>
  have hme:=List.mem_of_getLast? hl;obtain ⟨m1,m2⟩:=List.mem_filter.1 hme;unfold inE at m2;simp only[Bool.and_eq_true,decide_eq_true_eq] at m2;refine ⟨fun y hy h1 h2=>?_,.inr ⟨e,m1,m2.1,m2.2,rfl⟩⟩;have hyf:y∈L.filter (inE x u):=List.mem_filter.2 ⟨hy,by unfold inE;simp[h1,h2]⟩;have hsf:q0u (L.filter (inE x u)):=hs.filter _;obtain ⟨l,hl2⟩:=List.getLast?_eq_some_iff.1 hl;rw[hl2] at hyf hsf;rcases List.mem_append.1 hyf with h3|h3
  ·have h4:=(List.pairwise_append.1 hsf).2.2 y h3 e (by simp)
   rw[lessE_iff] at h4;show y.2.1≤e.2.1;omega
  ·rw[List.mem_singleton.1 h3];exact Int.le_refl _
end
end
section
open Go.RowKit
structure To where
 s:List UInt8
 v:Int
 e:Ev
def to0 :To:=⟨[],0,ev0⟩
def q6p (s:List UInt8):Nat→List Ev→List To
 |_,[]=>[]
 |i,e::r=>⟨s,(i:Int),e⟩::q6p s (i+1) r
def y4G (b:Bt):List To:=q6p b.st b.fi b.ev
def tos (bs:List Bt):List To:=(bs.map y4G).flatten
def q1J (bs:List Bt) (s:List UInt8):List Ev:=((bs.filter fun b=>decide (b.st=s)).map Bt.ev).flatten
def q7c (bs:List Bt) (s:List UInt8):List To:=q6p s 0 (q1J bs s)
def okBs (bs:List Bt):Prop:= ∀l b r,bs=l++b::r→z6K b∧b.fi=(q1J l b.st).length
theorem z0p {α:Type} {P:List α→Prop} (h0:P []) (h1: ∀l a,P l→P (l++[a])) (l:List α):P l:=by
 have h : ∀n,∀l:List α,l.length=n→P l:=fun n=>by
  induction n with
  |zero=>intro l hl;rw[List.length_eq_zero_iff.1 hl];exact h0
  | succ n ih=>
   intro l hl;rcases List.eq_nil_or_concat l with e|⟨m,a,e⟩
   ·rw[e] at hl;simp at hl
   ·rw[List.concat_eq_append] at e
    subst e;exact h1 m a (ih m (by simpa using hl))
 exact h _ l rfl
theorem q1v (s:List UInt8): ∀(L:List Ev) (i:Nat),(q6p s i L).length=L.length
 |[],_=>rfl
 |e::r,i=>by rw[q6p,List.length_cons,q1v s r,List.length_cons]
theorem q5r (s:List UInt8): ∀(a b:List Ev) (i:Nat),q6p s i (a++b)=q6p s i a++q6p s (i+a.length) b
 |[],b,i=>rfl
 | e::r,b,i=>by
  rw[List.cons_append,q6p,q5r s r b,q6p,List.cons_append,List.length_cons]
  congr 3;omega
theorem numT_mem {s:List UInt8} {t:To}: ∀{L:List Ev} {i:Nat},t∈q6p s i L↔ ∃k,k<L.length∧t=⟨s,((i+k:Nat):Int),L.getD k ev0⟩
 |[],i=>by simp[q6p]
 | e ::r,i=>by
  rw[q6p,List.mem_cons,numT_mem]
  constructor
  ·rintro (h|⟨k,h1,h2⟩)
   ·exact ⟨0,by simp,by rw[h];rfl⟩
   ·exact ⟨k+1,by simpa using h1,by rw[h2,List.getD_cons_succ];congr 2;omega⟩
  ·rintro ⟨k,h1,h2⟩
   cases k with
   |zero=>exact .inl h2
   |succ k=>exact .inr ⟨k,by simpa using h1,by rw[h2,List.getD_cons_succ];congr 2;omega⟩
theorem q6s (s:List UInt8) (a b:Int): ∀(L:List Ev) (i:Nat),(q6p s i L).filter (fun t=>decide (a≤t.v∧t.v≤b))=((q6p s i L).drop (a-(i:Int)).toNat).take ((b+1-(i:Int)).toNat-(a-(i:Int)).toNat)
 |[],i=>by simp[q6p]
 | e ::r,i=>by
  have ih:=q6s s a b r (i+1);rw[q6p];by_cases h1:a≤(i:Int)
  ·have h0:(a-(i:Int)).toNat=0:=by omega
   have h0':(a-((i+1:Nat):Int)).toNat=0:=by omega
   rw[h0,List.drop_zero,Nat.sub_zero];rw[h0',List.drop_zero,Nat.sub_zero] at ih;by_cases h2:(i:Int)≤b
   ·rw[List.filter_cons_of_pos (by simp;omega),ih,show (b+1-(i:Int)).toNat=(b+1-((i+1:Nat):Int)).toNat+1 by omega,List.take_succ_cons]
   ·rw[List.filter_cons_of_neg (by simp;omega),ih,show (b+1-(i:Int)).toNat=0 by omega,show (b+1-((i+1:Nat):Int)).toNat=0 by omega,List.take_zero,List.take_zero]
  ·have h0:(a-(i:Int)).toNat=(a-((i+1:Nat):Int)).toNat+1:=by omega
   rw[List.filter_cons_of_neg (by simp;omega),ih,h0,List.drop_succ_cons]
   congr 1
   omega
theorem z7U (s:List UInt8): ∀(L:List Ev) (i:Nat),(q6p s i L).Pairwise fun x y=>x.v<y.v
 |[],_=>List.Pairwise.nil
 | e ::r,i=>List.pairwise_cons.2 ⟨fun t ht=>by
   obtain ⟨k,_,rfl⟩:=numT_mem.1 ht;simp only;omega,z7U s r _⟩
theorem q3X (a b:List Bt):tos (a++b)=tos a++tos b:=by unfold tos;rw[List.map_append,List.flatten_append]
theorem q8P (b:Bt):tos [b]=y4G b:=by unfold tos;simp
theorem q4d (b:Bt):(y4G b).length=b.ev.length:=q1v _ _ _
theorem q7D (bs:List Bt) (b:Bt) (s:List UInt8):q1J (bs++[b]) s=if b.st=s then q1J bs s++b.ev else q1J bs s:=by
 unfold q1J;rw[List.filter_append,List.map_append,List.flatten_append]
 split
 ·rename_i h;rw[List.filter_cons_of_pos (by simpa using h)];simp
 ·rename_i h;rw[List.filter_cons_of_neg (by simpa using h)];simp
theorem okBs.nil :okBs []:=fun l b r h=>by simp at h
theorem okBs_snoc {bs:List Bt} {b:Bt}:okBs (bs++[b])↔okBs bs∧z6K b∧b.fi=(q1J bs b.st).length:=by
 constructor
 ·intro h
  exact ⟨fun l c r e=>h l c (r++[b]) (by rw[e];simp),h bs b [] rfl⟩
 ·rintro ⟨h1,h2⟩ l c r e
  rcases List.eq_nil_or_concat r with e1|⟨r',d,e1⟩
  ·subst e1
   obtain ⟨e2,e3⟩:=List.append_inj' e rfl;rw[←e2];injection e3 with e3;subst e3;exact h2
  ·rw[List.concat_eq_append] at e1
   subst e1;have e':bs++[b]=(l++c::r')++[d]:=by rw[e];simp
   obtain ⟨e2,_⟩:=List.append_inj' e' rfl;exact h1 l c r' e2
theorem q8b {bs:List Bt} (h:okBs bs) (s:List UInt8):(tos bs).filter (fun t=>decide (t.s=s))=q7c bs s:=by
 revert h
 induction bs using z0p with
 |h0=>intro _;rfl
 | h1 l b ih=>
  intro h;obtain ⟨h1,h2,h3⟩:=okBs_snoc.1 h;unfold q7c;rw[q3X,List.filter_append,ih h1,q8P,q7D];by_cases hs:b.st=s
  ·rw [if_pos hs,q5r,Nat.zero_add,←hs,←h3,List.filter_eq_self.2]
   ·rfl
   ·intro t ht
    obtain ⟨k,_,rfl⟩:=numT_mem.1 ht;simp
  ·rw [if_neg hs,List.filter_eq_nil_iff.2,List.append_nil]
   ·rfl
   ·intro t ht
    obtain ⟨k,_,rfl⟩:=numT_mem.1 ht
    simpa using hs
theorem y1q {bs:List Bt} {t:To}:t∈tos bs↔ ∃b∈bs,∃k,k<b.ev.length∧t=⟨b.st,((b.fi+k:Nat):Int),b.ev.getD k ev0⟩:=by
 unfold tos;rw[List.mem_flatten]
 constructor
 ·rintro ⟨l,hl,ht⟩
  obtain ⟨b,hb,rfl⟩:=List.mem_map.1 hl;exact ⟨b,hb,numT_mem.1 ht⟩
 ·rintro ⟨b,hb,hk⟩
  exact ⟨_,List.mem_map.2 ⟨b,hb,rfl⟩,numT_mem.2 hk⟩
theorem okBs.each {bs:List Bt} (h:okBs bs) {b:Bt} (hb:b∈bs):z6K b:=by
 obtain ⟨l,r,rfl⟩:=List.append_of_mem hb;exact (h l b r rfl).1
theorem q5E (a b:List Bt) (s:List UInt8):q1J (a++b) s=q1J a s++q1J b s:=by
 unfold q1J;rw[List.filter_append,List.map_append,List.flatten_append]
theorem okBs.apart {l m r:List Bt} {b c:Bt} (h:okBs (l++b::m++c::r)) (hs:b.st=c.st):b.fi+b.ev.length≤c.fi:=by
 have h1:=h l b (m++c::r) (by simp);have h2:=h (l++b::m) c r (by simp);rw[h2.2,h1.2,q5E,List.length_append,show b::m=[b]++m from rfl,q5E,List.length_append,←hs];have:(q1J [b] b.st).length=b.ev.length:=by unfold q1J;simp
 omega
theorem y3l {l m:List To} (hl:l.Pairwise fun x y=>x.v<y.v) (hm:m.Pairwise fun x y=>x.v<y.v) (h: ∀t,t∈l↔t∈m):l=m:=by
 induction l generalizing m with
 | nil=>
  cases m with
  |nil=>rfl
  |cons y m=>exact absurd ((h y).2 (.head _)) (by simp)
 | cons x l ih=>
  cases m with
  |nil=>exact absurd ((h x).1 (.head _)) (by simp)
  | cons y m=>
   obtain ⟨h1,h2⟩:=List.pairwise_cons.1 hl;obtain ⟨h3,h4⟩:=List.pairwise_cons.1 hm;have hxy:x=y:=by
    rcases List.mem_cons.1 ((h x).1 (.head _)) with e|hx
    ·exact e
    rcases List.mem_cons.1 ((h y).2 (.head _)) with e|hy
    ·exact e.symm
    have a:=h1 y hy;have b:=h3 x hx;omega
   subst hxy;rw[ih h2 h4 fun t=>?_]
   constructor
   ·intro ht
    rcases List.mem_cons.1 ((h t).1 (.tail _ ht)) with e|ht2
    ·have:=h1 t ht;rw[e] at this;omega
    ·exact ht2
   ·intro ht
    rcases List.mem_cons.1 ((h t).2 (.tail _ ht)) with e|ht2
    ·have:=h3 t ht;rw[e] at this;omega
    ·exact ht2
end
section
open Go.RowKit
abbrev Pbs :=List (Nat×Bt)
def z0n (P:Pbs):List (Nat×List UInt8):=P.map fun x=>(x.1,btB x.2)
def q4v (sd:Int) (P:Pbs):List En:=(P.map fun x=>q0j sd x.1 x.2 x.2.ev.length).flatten
def q1b (P:Pbs):List Bt:=P.map Prod.snd
def q2S (P:Pbs) (s:List UInt8) (x:En):Option To:=
 match P.find? (fun y=>decide ((y.1:Int)=x.2.2)) with
 |none=>none
 |some y=>if y.2.st=s∧(y.2.fi:Int)≤x.2.1∧x.2.1<(y.2.fi:Int)+(y.2.ev.length:Int) then some ⟨s,x.2.1,y.2.ev.getD (x.2.1-(y.2.fi:Int)).toNat ev0⟩ else none
structure StI (sd:Int) (B:List En) (P:Pbs):Prop where
 ok:okBs (q1b P)
 pos:P.Pairwise fun a b=>a.1<b.1
 ents: ∀x,x∈B↔x∈q4v sd P
theorem z1n (sd:Int): ∀{P:Pbs},(∀y∈P,z6K y.2)→z2v sd (z0n P)=some (q4v sd P)
 |[],_=>rfl
 | y::P,h=>by
  have ih:=z1n sd (P:=P) fun z hz=>h z (.tail _ hz)
  have h1:=z3H y.2 (h y (.head _));unfold z0n at ih⊢;rw[List.map_cons,z2v,h1,Option.bind_some,ih]
  rfl
theorem mem_entsP {sd:Int} {P:Pbs} {x:En}:x∈q4v sd P↔ ∃y∈P,∃k,k<y.2.ev.length∧x=q2t sd y.1 y.2 k:=by
 unfold q4v;rw[List.mem_flatten]
 constructor
 ·rintro ⟨l,hl,hx⟩
  obtain ⟨y,hy,rfl⟩:=List.mem_map.1 hl;unfold q0j at hx;obtain ⟨k,hk,rfl⟩:=List.mem_map.1 hx;exact ⟨y,hy,k,List.mem_range.1 hk,rfl⟩
 ·rintro ⟨y,hy,k,hk,rfl⟩
  exact ⟨_,List.mem_map.2 ⟨y,hy,rfl⟩,by unfold q0j;exact List.mem_map.2 ⟨k,List.mem_range.2 hk,rfl⟩⟩
theorem z5C : ∀{P:Pbs},P.Pairwise (fun a b=>a.1<b.1)→ ∀{y:Nat×Bt},y∈P→P.find? (fun z=>decide ((z.1:Int)=(y.1:Int)))=some y
 |[],_,y,h=>by cases h
 | z ::P,hp,y,h=>by
  obtain ⟨h1,h2⟩:=List.pairwise_cons.1 hp;rcases List.mem_cons.1 h with rfl|h
  ·rw[List.find?_cons_of_pos (by simp)]
  ·rw[List.find?_cons_of_neg (by have:=h1 y h;simp;omega)]
   exact z5C h2 h
section
variable {sd :Int} {B:List En} {P:Pbs}
theorem q6S (h:P.Pairwise fun a b=>a.1<b.1) {y:Nat×Bt} (hy:y∈P) {k:Nat} (hk:k<y.2.ev.length) (s:List UInt8):q2S P s (q2t sd y.1 y.2 k)=if y.2.st=s then some ⟨s,((y.2.fi+k:Nat):Int),y.2.ev.getD k ev0⟩ else none:=by
 unfold q2S q2t;simp only;rw[z5C h hy];simp only;by_cases hs:y.2.st=s
 ·rw[if_pos hs,if_pos ⟨hs,by omega,by omega⟩,show ((y.2.fi:Int)+(k:Int)-(y.2.fi:Int)).toNat=k by omega]
  congr 1
 ·rw[if_neg hs,if_neg fun h=>hs h.1]
theorem StI.found (h:StI sd B P) {s:List UInt8} {x:En} (hx:x∈B) {t:To}:q2S P s x=some t↔ ∃y∈P,∃k,k<y.2.ev.length∧x=q2t sd y.1 y.2 k∧y.2.st=s∧t=⟨s,((y.2.fi+k:Nat):Int),y.2.ev.getD k ev0⟩:=by
 obtain ⟨y,hy,k,hk,rfl⟩:=mem_entsP.1 ((h.ents x).1 hx);rw[q6S h.pos hy hk]
 constructor
 ·intro hf
  split at hf
  ·rename_i hs
   injection hf with hf;exact ⟨y,hy,k,hk,rfl,hs,hf.symm⟩
  ·cases hf
 ·rintro ⟨z,hz,j,hj,he,hs,rfl⟩
  have h1:=q6S (sd:=sd) h.pos hy hk s;have h2:=q6S (sd:=sd) h.pos hz hj s;rw[←he,h1,if_pos hs] at h2;exact h2
theorem StI.mem_str (h:StI sd B P) {s:List UInt8} {t:To}:t∈q7c (q1b P) s↔ ∃y∈P,∃k,k<y.2.ev.length∧y.2.st=s∧t=⟨s,((y.2.fi+k:Nat):Int),y.2.ev.getD k ev0⟩:=by
 rw[←q8b h.ok,List.mem_filter,y1q]
 constructor
 ·rintro ⟨⟨b,hb,k,hk,rfl⟩,hs⟩
  obtain ⟨y,hy,rfl⟩:=List.mem_map.1 hb;simp only[decide_eq_true_eq] at hs;exact ⟨y,hy,k,hk,hs,by rw[hs]⟩
 ·rintro ⟨y,hy,k,hk,hs,rfl⟩
  exact ⟨⟨y.2,List.mem_map.2 ⟨y,hy,rfl⟩,k,hk,by rw[hs]⟩,by simp⟩
theorem StI.between (h:StI sd B P) (hB:q0u B) (s:List UInt8) (a b:Int):(q0v B (q2n sd s) a b).filterMap (q2S P s)=(q7c (q1b P) s).filter fun t=>decide (a≤t.v∧t.v≤b):=by
 refine y3l ?_ ((z7U _ _ _).filter _) fun t=>?_
 ·rw [List.pairwise_filterMap]
  refine List.Pairwise.imp_of_mem ?_ (q5M hB (q2n sd s) a b);intro x y hx hy hxy t ht u hu;obtain ⟨hx1,hx2,hx3,hx4⟩:=mem_range.1 hx;obtain ⟨hy1,hy2,hy3,hy4⟩:=mem_range.1 hy;obtain ⟨p,hp,i,hi,rfl,hs1,rfl⟩:=(h.found hx1).1 ht;obtain ⟨q,hq,j,hj,rfl,hs2,rfl⟩:=(h.found hy1).1 hu;rw[lessE_iff] at hxy;unfold q2t at hxy;simp only at hxy⊢;rw[hs1,hs2] at hxy;rcases hxy with hxy|⟨_,hxy|⟨he,hpq⟩⟩
  ·omega
  ·omega
  ·exfalso
   obtain ⟨l,r,hl⟩:=List.append_of_mem hp;have hok:=h.ok;have hpos:=h.pos;rw[hl] at hok hpos hq;rcases List.mem_append.1 hq with hq|hq
   ·have:=(List.pairwise_append.1 hpos).2.2 q hq p (.head _)
    omega
   ·rcases List.mem_cons.1 hq with hq|hq
    ·rw[hq] at hpq;omega
    ·obtain ⟨m,r2,hm⟩:=List.append_of_mem hq
     rw[hm] at hok;unfold q1b at hok;rw[List.map_append,List.map_cons,List.map_append,List.map_cons] at hok;have:=okBs.apart (l:=l.map Prod.snd) (b:=p.2) (m:=m.map Prod.snd) (c:=q.2) (r:=r2.map Prod.snd) (by rw[List.append_assoc,List.cons_append];exact hok) (by rw[hs1,hs2]);omega
 ·rw [List.mem_filterMap,List.mem_filter,h.mem_str,decide_eq_true_eq]
  constructor
  ·rintro ⟨x,hx,ht⟩
   obtain ⟨hx1,hx2,hx3,hx4⟩:=mem_range.1 hx;obtain ⟨y,hy,k,hk,rfl,hs,rfl⟩:=(h.found hx1).1 ht;unfold q2t at hx3 hx4;simp only at hx3 hx4⊢;exact ⟨⟨y,hy,k,hk,hs,rfl⟩,by omega,by omega⟩
  ·rintro ⟨⟨y,hy,k,hk,hs,rfl⟩,h1,h2⟩
   simp only at h1 h2;have hx:q2t sd y.1 y.2 k∈B:=(h.ents _).2 (mem_entsP.2 ⟨y,hy,k,hk,rfl⟩);refine ⟨q2t sd y.1 y.2 k,mem_range.2 ⟨hx,?_,?_,?_⟩,(h.found hx).2 ⟨y,hy,k,hk,rfl,hs,rfl⟩⟩
   ·unfold q2t;simp only;rw[hs]
   ·unfold q2t;simp only;omega
   ·unfold q2t;simp only;omega
theorem q5o (bs:List Bt) (s:List UInt8):(q7c bs s).length=(q1J bs s).length:=q1v _ _ _
theorem StI.has (h:StI sd B P) {s:List UInt8} {v:Nat} (hv:v<(q1J (q1b P) s).length): ∃x∈B,x.1=q2n sd s∧x.2.1=(v:Int):=by
 have ht:(⟨s,((0+v:Nat):Int),(q1J (q1b P) s).getD v ev0⟩:To)∈q7c (q1b P) s:=numT_mem.2 ⟨v,hv,rfl⟩;obtain ⟨y,hy,k,hk,hs,he⟩:=h.mem_str.1 ht;injection he with _ he _;refine ⟨q2t sd y.1 y.2 k,(h.ents _).2 (mem_entsP.2 ⟨y,hy,k,hk,rfl⟩),?_,?_⟩
 ·unfold q2t;simp only;rw[hs]
 ·unfold q2t;simp only;omega
theorem StI.last (h:StI sd B P) (hB:okM B) {s:List UInt8} {u r:Int} (hu:((q1J (q1b P) s).length:Int)-1≤u) (hl:z4I B (q2n sd s) u r):
  ((q1J (q1b P) s).length:Int)-1≤r∧ -1≤r∧(r<0→q1J (q1b P) s=[])∧(0≤r→(q7c (q1b P) s).filter (fun t=>decide (r≤t.v∧t.v≤r))=[]→((q1J (q1b P) s).length:Int)-1≤r-1)∧
   ((q7c (q1b P) s).filter (fun t=>decide (r≤t.v∧t.v≤r))≠[]→((q1J (q1b P) s).length:Int)-1=r):=by
 have h0: -1≤r:=by
  rcases hl.2 with e|⟨y,hy,_,_,e⟩
  ·omega
  ·have:=okEn_iff.1 (hB.ok y hy);omega
 have h1:((q1J (q1b P) s).length:Int)-1≤r:=by
  rcases Nat.eq_zero_or_pos (q1J (q1b P) s).length with e|e
  ·omega
  ·obtain ⟨x,hx,e1,e2⟩:=h.has (s:=s) (v:=(q1J (q1b P) s).length-1) (by omega)
   have:=hl.1 x hx e1 (by omega);omega
 refine ⟨h1,h0,fun hr=>?_,fun hr he=>?_,fun hne=>?_⟩
 ·exact List.length_eq_zero_iff.1 (by omega)
 ·rcases Int.lt_or_le (((q1J (q1b P) s).length:Int)-1) r with hlt|hge
  ·omega
  ·exfalso
   have ht:(⟨s,((0+r.toNat:Nat):Int),(q1J (q1b P) s).getD r.toNat ev0⟩:To)∈q7c (q1b P) s:=numT_mem.2 ⟨r.toNat,by omega,rfl⟩;have:=(List.mem_filter (p:=fun t:To=>decide (r≤t.v∧t.v≤r))).2 ⟨ht,by simp;omega⟩;rw[he] at this
   cases this
 ·obtain ⟨t,ht⟩:=List.exists_mem_of_ne_nil _ hne
  obtain ⟨h2,h3⟩:=List.mem_filter.1 ht;obtain ⟨k,hk,rfl⟩:=numT_mem.1 h2;simp only[decide_eq_true_eq] at h3;omega
end
theorem z6G (sd:Int) (P:Pbs) (p:Nat) (b:Bt):q4v sd (P++[(p,b)])=q4v sd P++q0j sd p b b.ev.length:=by
 unfold q4v;rw[List.map_append,List.flatten_append];simp
theorem q4o (P:Pbs) (p:Nat) (b:Bt):q1b (P++[(p,b)])=q1b P++[b]:=by unfold q1b;rw[List.map_append];rfl
theorem mem_addEs {x:En}: ∀{es L:List En},x∈q1Z es L↔x∈es∨x∈L
 |[],L=>by unfold q1Z;simp
 | e ::es,L=>by
  have h:=mem_addEs (x:=x) (es:=es) (L:=q4K e L);unfold q1Z at*;rw[List.foldl_cons,h,mem_addE,List.mem_cons]
  constructor
  ·rintro (h|h|h)
   ·exact .inl (.inr h)
   ·exact .inl (.inl h)
   ·exact .inr h
  ·rintro ((h|h)|h)
   ·exact .inr (.inl h)
   ·exact .inl h
   ·exact .inr (.inr h)
theorem StI.snoc {sd:Int} {B:List En} {P:Pbs} (h:StI sd B P) {p:Nat} {b:Bt} (hb:z6K b) (hf:b.fi=(q1J (q1b P) b.st).length) (hp: ∀y∈P,y.1<p):StI sd (q1Z (q0j sd p b b.ev.length) B) (P++[(p,b)]):=by
 refine ⟨by rw[q4o];exact okBs_snoc.2 ⟨h.ok,hb,hf⟩,?_,fun x=>?_⟩
 ·rw[List.pairwise_append]
  exact ⟨h.pos,List.pairwise_singleton _ _,fun a ha c hc=>by obtain rfl:=List.mem_singleton.1 hc;exact hp a ha⟩
 ·rw[mem_addEs,z6G,List.mem_append,h.ents]
  exact Or.comm
theorem q7L (sd:Int) (P:Pbs):(q4v sd P).length=(tos (q1b P)).length:=by
 unfold q4v tos q1b;rw[List.length_flatten,List.length_flatten,List.map_map,List.map_map,List.map_map]
 congr 1
 refine List.map_congr_left fun x _=>?_
 simp only[Function.comp];rw[q4b,q4d]
theorem StI.len {sd:Int} {B:List En} {P:Pbs} (h:StI sd B P) (hB:q0u B):B.length≤(tos (q1b P)).length:=by
 rw[←q7L sd];have hn:B.Nodup:=hB.imp fun {a b} hab e=>by rw[e,q0d] at hab;cases hab
 exact nodup_leB hn fun x hx=>(h.ents x).1 hx
where nodup_leB {α:Type} [DecidableEq α]: ∀{l m:List α},l.Nodup→(∀x∈l,x∈m)→l.length≤m.length
 |[],_,_,_=>Nat.zero_le _
 | x::l,m,h,hm=>by
  obtain ⟨h1,h2⟩:=List.nodup_cons.1 h;have hx:=hm x (.head _);have h3:=nodup_leB (m:=m.erase x) h2 fun y hy=>(List.mem_erase_of_ne (fun e:y=x=>h1 (by rw[←e];exact hy))).2 (hm y (.tail _ hy))
  rw[List.length_erase_of_mem hx] at h3;have:=List.length_pos_of_mem hx;rw[List.length_cons];omega
def z0L (L:List To) (from_ count:Int):List To:=(L.drop from_.toNat).take count.toNat
def z2j (L:List To) (from_ count:Int):List To:=(L.drop (from_-count+1).toNat).take ((from_+1).toNat-(from_-count+1).toNat)
theorem y2P (bs:List Bt) (s:List UInt8) {f c:Int} (hf:0≤f) (hc:1≤c) (hn:(q1J bs s).length≤1073741824):(q7c bs s).filter (fun t=>decide (max f 0≤t.v∧t.v≤min (f+min c 1073741824-1) 1073741824))=z0L (q7c bs s) f c:=by
 unfold q7c z0L;rw[q6s,show (max f 0-((0:Nat):Int)).toNat=f.toNat by omega];rcases Int.lt_or_le (f+c-1) 1073741824 with h|h
 ·rw[show (min (f+min c 1073741824-1) 1073741824+1-((0:Nat):Int)).toNat-f.toNat=c.toNat by omega]
 ·rw[List.take_of_length_le,List.take_of_length_le]
  ·rw[List.length_drop,q1v];omega
  ·rw[List.length_drop,q1v];omega
theorem z7T (bs:List Bt) (s:List UInt8) {f c:Int} (hf:0≤f) (hc:1≤c) (hn:(q1J bs s).length≤1073741824):(q7c bs s).filter (fun t=>decide (max (f-c+1) 0≤t.v∧t.v≤min f 1073741824))=z2j (q7c bs s) f c:=by
 unfold q7c z2j;rw[q6s,show (max (f-c+1) 0-((0:Nat):Int)).toNat=(f-c+1).toNat by omega];rcases Int.le_total f 1073741824 with h|h
 ·rw[show (min f 1073741824+1-((0:Nat):Int)).toNat=(f+1).toNat by omega]
 ·rw[List.take_of_length_le,List.take_of_length_le]
  ·rw[List.length_drop,q1v];omega
  ·rw[List.length_drop,q1v];omega
theorem z8B {L:List To} {f c:Int} (h:(L.length:Int)≤f):z0L L f c=[]:=by
 unfold z0L;rw[List.drop_eq_nil_of_le (by omega),List.take_nil]
end
section
open Go.RowKit
def CksIn (φ:Fls) (C:Cks):Prop:= ∀k:Nat,k≤999999→φ (q0B 99 (k:Int))=(C[k]?).map (q0Y k)
def z1i (φ:Fls) (m:Man):Prop:=(φ mapN=some m.S∧0<m.nx)∨(φ mapN=none∧m.nx=0∧m.ck=0∧m.L=[])
def y2r (nm:List UInt8):Prop:= ∀k:Nat,k≤999999→nm≠q0B 99 (k:Int)
theorem z8g : ∀{a b:List (List UInt8×List UInt8)},q3N Prod.fst a→q3N Prod.fst b→(∀z,z∈a↔z∈b)→a=b
 |[],[],_,_,_=>rfl
 |[],y::b,_,_,h=>absurd ((h y).2 (.head _)) (by simp)
 |x::a,[],_,_,h=>absurd ((h x).1 (.head _)) (by simp)
 | x ::a,y::b,ha,hb,h=>by
  obtain ⟨h1,h2⟩:=List.pairwise_cons.1 ha;obtain ⟨h3,h4⟩:=List.pairwise_cons.1 hb;have hxy:x=y:=by
   rcases List.mem_cons.1 ((h x).1 (.head _)) with e|hx
   ·exact e
   rcases List.mem_cons.1 ((h y).2 (.head _)) with e|hy
   ·exact e.symm
   have:=WideShapes.bytes_trans _ _ _ (h1 y hy) (h3 x hx);rw[WideAt.bytes_irrefl] at this;cases this
  subst hxy;rw[z8g h2 h4 fun z=>?_]
  constructor
  ·intro hz
   rcases List.mem_cons.1 ((h z).1 (.tail _ hz)) with e|hz2
   ·have:=h1 z hz;rw[e,WideAt.bytes_irrefl] at this;cases this
   ·exact hz2
  ·intro hz
   rcases List.mem_cons.1 ((h z).2 (.tail _ hz)) with e|hz2
   ·have:=h3 z hz;rw[e,WideAt.bytes_irrefl] at this;cases this
   ·exact hz2
theorem z4V {l:List (List UInt8×List UInt8)} (h:q3N Prod.fst l) (z:List UInt8×List UInt8):z∈l↔(q0H Prod.fst z.1 l).map Prod.snd=some z.2:=by
 constructor
 ·intro hz;rw[q4V h hz rfl];rfl
 ·intro hz
  cases hf:q0H Prod.fst z.1 l with
  |none=>rw[hf] at hz;cases hz
  | some y=>
   rw[hf] at hz;injection hz with hz;obtain ⟨h1,h2⟩:=q0L hf;have:y=z:=Prod.ext h2 hz
   rwa [this] at h1
theorem z9w {a b:List (List UInt8×List UInt8)} (ha:q3N Prod.fst a) (hb:q3N Prod.fst b) (h: ∀nm,(q0H Prod.fst nm a).map Prod.snd=(q0H Prod.fst nm b).map Prod.snd):a=b:=
 z8g ha hb fun z=>by rw[z4V ha,z4V hb,h]
theorem z1Q {α:Type} {r:α→α→Prop} {p:α→Bool} (hp: ∀x y,r x y→p y=true→p x=true): ∀{l:List α},l.Pairwise r→l=l.filter p++l.filter (fun y=>!p y)
 |[],_=>rfl
 | x :: l,h=>by
  obtain ⟨h1,h2⟩:=List.pairwise_cons.1 h
  cases hx:p x with
  | true=>
   rw[List.filter_cons_of_pos hx,List.filter_cons_of_neg (by simp[hx]),List.cons_append,←z1Q hp h2]
  | false=>
   have hn: ∀y∈l,p y=false:=fun y hy=>by
    cases hy2:p y with
    |false=>rfl
    |true=>rw[hp x y (h1 y hy) hy2] at hx;cases hx
   rw [List.filter_cons_of_neg (by simp[hx]),List.filter_cons_of_pos (by simp[hx]),List.filter_eq_nil_iff.2 fun y hy=>by simp[hn y hy],List.nil_append,
    List.filter_eq_self.2 fun y hy=>by simp[hn y hy]]
theorem q7s {α:Type} [DecidableEq α]: ∀{l m:List α},l.Nodup→(∀x∈l,x∈m)→l.length≤m.length
 |[],_,_,_=>Nat.zero_le _
 | x::l,m,h,hm=>by
  obtain ⟨h1,h2⟩:=List.nodup_cons.1 h;have hx:=hm x (.head _);have h3:=q7s (m:=m.erase x) h2 fun y hy=>(List.mem_erase_of_ne (fun e:y=x=>h1 (by rw[←e];exact hy))).2 (hm y (.tail _ hy))
  rw[List.length_erase_of_mem hx] at h3;have:=List.length_pos_of_mem hx;rw[List.length_cons];omega
theorem q6C {k:Nat} (hk:k≤999999):bytesBefore [99] (q0B 99 (k:Int))=true∧bytesBefore (q0B 99 (k:Int)) [100]=true∧bytesBefore (q0B 99 (k:Int)) [99]=false:=by
 rw[q0W (by omega)];have hl:=q0h 6 ((k:Int)).toNat
 cases hd:q5g 6 ((k:Int)).toNat with
 |nil=>rw[hd] at hl;cases hl
 |cons a r=>exact ⟨by simp[bytesBefore],by simp[bytesBefore],by simp[bytesBefore]⟩
theorem z2F {n:Int} (hn:0≤n∧n≤999999):bytesBefore (q0B 98 n) [99]=true∧bytesBefore (q0B 116 n) [100]=false∧bytesBefore (q0B 116 n) [99]=false:=by
 rw[q0W hn,q0W hn];exact ⟨by simp[bytesBefore],by simp[bytesBefore],by simp[bytesBefore]⟩
theorem before_map :bytesBefore mapN [100]=false∧bytesBefore mapN [99]=false:=by decide
section
variable {st :IxSt} {σ σ':DM} {c s:Int} {φ:Fls} {u cnt:Nat} {B:List En} {C C':Cks} {E:Oth}
theorem z5R : ∀(C:Cks) (i:Nat),i+C.length≤999999→q3N Prod.fst (q4j i C)
 |[],_,_=>List.Pairwise.nil
 | ps::r,i,h=>by
  rw[List.length_cons] at h;refine List.pairwise_cons.2 ⟨fun y hy=>?_,z5R r (i+1) (by omega)⟩;obtain ⟨j,h1,h2,h3⟩:=q3x hy;rw[h3];exact q7M (by omega) (by omega) (by omega)
theorem z4t {C:Cks} (hC:C.length≤200) {k:Nat} (hk:k≤999999):(q0H Prod.fst (q0B 99 (k:Int)) (q4j 0 C)).map Prod.snd=(C[k]?).map (q0Y k):=by
 rcases Nat.lt_or_ge k C.length with h|h
 ·rw[z1W hC (List.getElem?_eq_getElem h),List.getElem?_eq_getElem h];rfl
 ·rw[z2s hC h hk,List.getElem?_eq_none h];rfl
theorem q8d (h:PInv st σ c s φ u cnt B) (hc:CksIn φ C) (hC:okC C):
  ∃E,Lgd E σ (c-(q2d E:Int)) s C∧(∀nm,y2r nm→(q0H Prod.fst nm (E.X++E.Z)).map Prod.snd=φ nm)∧q2d E+q0t C≤u∧E.X.length+C.length+E.Z.length≤cnt:=by
 obtain ⟨l,hpl,hord,hfun,hus,hln⟩:=h.fl;have hone: ∀y∈l,φ y.1≠none:=fun y hy e=>by
  have:=hfun y.1;rw[q4V hord hy rfl,e] at this;cases this
 have p1:=z1Q (r:=fun x y:List UInt8×List UInt8=>bytesBefore x.1 y.1=true) (p:=fun y:List UInt8×List UInt8=>bytesBefore y.1 [99]) (fun x y h1 h2=>WideShapes.bytes_trans _ _ _ h1 h2) hord;have hr:=hord.filter (p:=fun y:List UInt8×List UInt8=>!bytesBefore y.1 [99]);have p2:=z1Q (r:=fun x y:List UInt8×List UInt8=>bytesBefore x.1 y.1=true) (p:=fun y:List UInt8×List UInt8=>bytesBefore y.1 [100]) (fun x y h1 h2=>WideShapes.bytes_trans _ _ _ h1 h2) hr;obtain ⟨X,hX⟩: ∃X,l.filter (fun y=>bytesBefore y.1 [99])=X:=⟨_,rfl⟩
 obtain ⟨R,hR⟩: ∃R,l.filter (fun y=>!bytesBefore y.1 [99])=R:=⟨_,rfl⟩
 obtain ⟨M,hM⟩: ∃M,R.filter (fun y=>bytesBefore y.1 [100])=M:=⟨_,rfl⟩
 obtain ⟨Z,hZ⟩: ∃Z,R.filter (fun y=>!bytesBefore y.1 [100])=Z:=⟨_,rfl⟩
 rw[hX,hR] at p1;rw[hR,hM,hZ] at p2;rw[p2] at p1;have mX: ∀y,y∈X↔y∈l∧bytesBefore y.1 [99]=true:=fun y=>by rw[←hX,List.mem_filter]
 have mR: ∀y,y∈R↔y∈l∧bytesBefore y.1 [99]=false:=fun y=>by rw[←hR,List.mem_filter];simp
 have mM: ∀y,y∈M↔y∈l∧bytesBefore y.1 [99]=false∧bytesBefore y.1 [100]=true:=fun y=>by rw[←hM,List.mem_filter,mR];simp[and_assoc]
 have mZ: ∀y,y∈Z↔y∈l∧bytesBefore y.1 [99]=false∧bytesBefore y.1 [100]=false:=fun y=>by rw[←hZ,List.mem_filter,mR];simp[and_assoc]
 have hrng: ∀n∈st.m.L.flatten,0≤n∧n≤999999:=fun n hn=>by have:=h.range hn;omega
 have hXZ: ∀y,y∈X∨y∈Z→y.1=mapN∨ ∃n∈st.m.L.flatten,y.1=q0B 116 n∨y.1=q0B 98 n:=fun y hy=>by
  have hl:y∈l:=hy.elim (fun h=>((mX y).1 h).1) fun h=>((mZ y).1 h).1
  rcases h.only y.1 (hone y hl) with e|e|⟨k,hk,e⟩
  ·exact .inl e
  ·exact .inr e
  ·exfalso
   obtain ⟨_,b2,b3⟩:=q6C hk;rcases hy with hy|hy
   ·have:=((mX y).1 hy).2;rw[e,b3] at this;cases this
   ·have:=((mZ y).1 hy).2.2;rw[e,b2] at this;cases this
 have hMk: ∀y∈M,∃k:Nat,k≤999999∧y.1=q0B 99 (k:Int):=fun y hy=>by
  obtain ⟨hl,q1,q2⟩:=(mM y).1 hy;rcases h.only y.1 (hone y hl) with e|⟨n,hn,e|e⟩|e
  ·rw[e,before_map.1] at q2;cases q2
  ·rw[e,(z2F (hrng n hn)).2.1] at q2;cases q2
  ·rw[e,(z2F (hrng n hn)).1] at q1;cases q1
  ·exact e
 have hordP:=hord;rw[p1] at hordP;obtain ⟨oX,oMZ,_⟩:=List.pairwise_append.1 hordP;obtain ⟨oM,oZ,_⟩:=List.pairwise_append.1 oMZ;have hMC:M=q4j 0 C:=z9w oM (z5R C 0 (by have:=hC.few;omega)) fun nm=>by
  by_cases hnm: ∃k:Nat,k≤999999∧nm=q0B 99 (k:Int)
  ·obtain ⟨k,hk,rfl⟩:=hnm
   rw[z4t hC.few hk,←hc k hk,←hfun];obtain ⟨_,b2,b3⟩:=q6C hk;rw[p1,q0i fun y hy e=>?_,q1a fun y hy e=>?_]
   ·have:=((mZ y).1 hy).2.2;rw[show y.1=q0B 99 (k:Int) from e,b2] at this;cases this
   ·have:=((mX y).1 hy).2;rw[show y.1=q0B 99 (k:Int) from e,b3] at this;cases this
  ·rw [q0c fun y hy e=>hnm (by obtain ⟨k,hk,e2⟩:=hMk y hy;exact ⟨k,hk,by rw[←e2];exact e.symm⟩),q0c fun y hy e=>hnm (by
    obtain ⟨j,h1,h2,h3⟩:=q3x hy;exact ⟨j,by have:=hC.few;omega,by rw[←h3];exact e.symm⟩)]
 rw[hMC] at p1;have hnn:=h.noNew;have huse:q1i l=q2d ⟨X,Z⟩+q0t C:=by
  rw[p1,q1U,q1U,q6B];unfold q2d;simp only;omega
 have hlen:l.length=X.length+C.length+Z.length:=by rw[p1];simp[q5k];omega
 refine ⟨⟨X,Z⟩,⟨?_,hC,⟨fun y hy k hk=>?_,fun y hy k hk=>?_,fun y hy e=>?_,fun y hy hp=>?_,fun y hy=>?_,?_⟩⟩,fun nm hnm=>?_,by omega,by simp only;omega⟩
 ·rw[show c-(q2d ⟨X,Z⟩:Int)+(q2d ⟨X,Z⟩:Int)=c by omega]
  show Pl σ c s (X++(q4j 0 C++Z));rw[←p1];exact hpl
 ·exact WideShapes.bytes_trans _ _ _ ((mX y).1 hy).2 (q6C hk).1
 ·by_cases q:y.1=[100]
  ·rw[q];exact (q6C hk).2.1
  ·rcases WideAt.bytes_total y.1 [100] q with q|q
   ·rw[((mZ y).1 hy).2.2] at q;cases q
   ·exact WideShapes.bytes_trans _ _ _ (q6C hk).2.1 q
 ·have hl:y∈l:=hy.elim (fun h=>((mX y).1 h).1) fun h=>((mZ y).1 h).1
  exact hone y hl (by rw[e];exact hnn)
 ·rcases hXZ y hy with e|⟨n,hn,e|e⟩
  ·rw[e] at hp;exact absurd hp (by decide)
  ·rw[e,q2N q8y (hrng n hn)];exact (by decide:(116:UInt8)≠99)
  ·rw[e,q2N z8u (hrng n hn)];exact (by decide:(98:UInt8)≠99)
 ·rcases hXZ y hy with e|⟨n,hn,e|e⟩
  ·rw[e];decide
  ·rw[e,q0W (hrng n hn),List.length_cons,q0h];decide
  ·rw[e,q0W (hrng n hn),List.length_cons,q0h];decide
 ·have hnd:((X++Z).map Prod.fst).Nodup:=by
   have ho:q3N Prod.fst (X++Z):=by
    rw[p1] at hord;exact hord.sublist (List.Sublist.append (List.Sublist.refl X) (List.sublist_append_right _ _))
   exact List.pairwise_map.2 (z1e ho)
  have hb:=Man.bounds h.man;have:=q7s (m:=mapN::(st.m.L.flatten.map (q0B 116)++st.m.L.flatten.map (q0B 98))) hnd fun x hx=>by
   obtain ⟨y,hy,rfl⟩:=List.mem_map.1 hx;rcases hXZ y (List.mem_append.1 hy) with e|⟨n,hn,e|e⟩
   ·rw[e];exact .head _
   ·rw[e];exact .tail _ (List.mem_append.2 (.inl (List.mem_map.2 ⟨n,hn,rfl⟩)))
   ·rw[e];exact .tail _ (List.mem_append.2 (.inr (List.mem_map.2 ⟨n,hn,rfl⟩)))
  simp only[List.length_map,List.length_append,List.length_cons] at this;simp only;omega
 ·rw [←hfun,p1]
  show (q0H Prod.fst nm (X++Z)).map Prod.snd=_;have hno: ∀y∈q4j 0 C,Prod.fst y≠nm:=fun y hy e=>by
   obtain ⟨j,h1,h2,h3⟩:=q3x hy;exact hnm j (by have:=hC.few;omega) (by rw[←h3];exact e.symm)
  unfold q0H;rw[List.find?_append,List.find?_append,List.find?_append];have h0:List.find? (fun y=>Prod.fst y==nm) (q4j 0 C)=none:=q0c hno;rw[h0];simp
theorem PInv.relog (h:PInv st σ c s φ u cnt B) (hE: ∀nm,y2r nm→(q0H Prod.fst nm (E.X++E.Z)).map Prod.snd=φ nm) (hL:Lgd E σ' (c-(q2d E:Int)) s C') (ho:okD σ') {u' cnt':Nat} (hu:q2d E+q0t C'≤u') (hn:E.X.length+C'.length+E.Z.length≤cnt'):
  ∃φ',PInv st σ' c s φ' u' cnt' B∧CksIn φ' C'∧ ∀nm,y2r nm→φ' nm=φ nm:=by
 have hpl:=hL.pl;rw[show c-(q2d E:Int)+(q2d E:Int)=c by omega] at hpl;have hold: ∀nm,y2r nm→(q0H Prod.fst nm (q3r E C')).map Prod.snd=φ nm:=fun nm hnm=>by
  rw[←hE nm hnm];have hno: ∀y∈q4j 0 C',Prod.fst y≠nm:=fun y hy e=>by
   obtain ⟨j,h1,h2,h3⟩:=q3x hy;exact hnm j (by have:=hL.ok.few;omega) (by rw[←h3];exact e.symm)
  unfold q0H q3r;rw[List.find?_append,List.find?_append,List.find?_append];have h0:List.find? (fun y=>Prod.fst y==nm) (q4j 0 C')=none:=q0c hno;rw[h0];simp
 have hck: ∀k:Nat,k≤999999→(q0H Prod.fst (q0B 99 (k:Int)) (q3r E C')).map Prod.snd=(C'[k]?).map (q0Y k):=fun k hk=>by
  rw[←z4t hL.ok.few hk];unfold q3r;rw[q0i (hL.oth.neX hk),q1a (hL.oth.neZ hk)]
 have htb: ∀c':UInt8,(c'=116∨c'=98)→ ∀n:Int,0≤n∧n≤999999→y2r (q0B c' n):=fun c' hc n hn k hk e=>by
  have hl:q2D c'=true:=by rcases hc with rfl|rfl<;>decide
  have:=(q1m hl y2E hn (by omega) e).1;rcases hc with rfl|rfl<;>exact absurd this (by decide)
 have hrng: ∀n∈st.m.L.flatten,0≤n∧n≤999999:=fun n hn=>by have:=h.range hn;omega
 refine ⟨fun nm=>(q0H Prod.fst nm (q3r E C')).map Prod.snd,⟨⟨q3r E C',hpl,hpl.ord ho,fun _=>rfl,by rw[q9P];exact hu,by rw[q9F];exact hn⟩,h.man,h.full,fun n e he=>?_,fun nm hnm=>?_,h.okw,h.okB,h.mem⟩,hck,hold⟩
 ·obtain ⟨t0,t1,⟨y,t2⟩,t3,t4⟩:=h.tb n e he
  exact ⟨t0,(hold _ (htb 116 (.inl rfl) n (hrng n t0))).trans t1,⟨y,(hold _ (htb 98 (.inr rfl) n (hrng n t0))).trans t2⟩,t3,t4⟩
 ·by_cases hc: ∃k:Nat,k≤999999∧nm=q0B 99 (k:Int)
  ·exact .inr (.inr hc)
  ·exact h.only nm (by rw[←hold nm fun k hk e=>hc ⟨k,hk,e⟩];exact hnm)
end
end
section
open Go.RowKit Go.Maps
def DkX (wb W:World) (g:Nat) (σ:DM) (K:Nat→Prop):Prop:= ∃F,DkF wb W g F σ K
def q3q :DM→List Int→(Int→Option (List En))→(Int→Option (List En))×Int×DM
 |σ,[],acc=>(acc,0,σ)
 | σ,n::ns,acc=>match q5C σ n with
  |(none,e,τ)=>(acc,e,τ)
  |(some L,_,τ)=>q3q τ ns (fun x=>if x=n then some L else acc x)
def z2N (wb w:World) (g:Nat) (m:Man) (rate:Nat) (K:Nat→Prop) (σ:DM) (e:Ending) (w':World):Prop:=
 (q0Z m.nx m.ck m.L=false∧e= .returned (.tuple #[.pointer none,.int .i64 2])∧DkX wb w' g σ K∧Stay K w w')∨
 (q0Z m.nx m.ck m.L=true∧σ.down=true∧e= .returned (.tuple #[.pointer none,.int .i64 61])∧DkX wb w' g σ K∧Stay K w w')∨
 (q0Z m.nx m.ck m.L=true∧σ.down=false∧(q3q σ m.L.flatten (fun _=>none)).2.1≠0∧e= .returned (.tuple #[.pointer none,.int .i64 (q3q σ m.L.flatten (fun _=>none)).2.1])∧DkX wb w' g (q3q σ m.L.flatten (fun _=>none)).2.2 K∧Stay K w w')∨
 (q0Z m.nx m.ck m.L=true∧σ.down=false∧(q3q σ m.L.flatten (fun _=>none)).2.1=0∧ ∃gx t,e= .returned (.tuple #[.pointer (some ⟨gx,0,none⟩),.int .i64 0])∧
  IxK wb w' g gx ⟨m,rate,[],t,m.L.flatten.length⟩ (q3q σ m.L.flatten (fun _=>none)).2.2 K∧Stay K w w'∧ ∀n,(t n).map TE.L=(q3q σ m.L.flatten (fun _=>none)).1 n)
section
variable {wb w0 w W W1 w1 w2:World} {g gx gm gt B:Nat} {st st1:IxSt} {F Y Y1 K K' V T:Nat→Prop} {σ σ1:DM} {va v v1 v2 vm:Value} {vs:List Value} {ns:List Int} {acc:List (List En)} {M L:List En}
theorem IxI.putO {D:DataW Unit} {nn:Nat} (h:IxI w gx g gm gt st v vs vm D nn Y) {n:Int} {t:Nat} {may:Int→Bool}
  (hO:w2.ownsMap Tryz.prog 3 q5Y gt (nn+1) (D.put (.int .i64 n) (.lit (.int .i64 t)))) (hoff:OffS (fun i=>i=gt) w w2)
  (htb:Tb w t g n L may T) (hT: ∀i,T i→¬InX gx gm gt i):
  IxI w2 gx g gm gt ⟨st.m,st.rate,st.w,(fun x=>if x=n then some ⟨t,L,may⟩ else st.t x),st.c+1⟩ v vs vm (D.put (.int .i64 n) (.lit (.int .i64 t))) (nn+1) (fun i=>Y i∨T i):=by
 have hY: ∀i,i<w.heap.size→i≠gt→w2.heap[i]? =w.heap[i]? :=fun i hi hx=>hoff.block i hi hx
 have hYl: ∀i,(Y i∨T i)→i<w.heap.size∧¬InX gx gm gt i:=fun i hi=>by
  rcases hi with hi|hi
  ·exact ⟨h.lt i hi,h.apart i hi⟩
  ·exact ⟨htb.lt i hi,hT i hi⟩
 have hYY: ∀i,(Y i∨T i)→w2.heap[i]? =w.heap[i]? :=fun i hi=>hY i (hYl i hi).1 fun e=>(hYl i hi).2 (.inr (.inr e))
 refine ⟨h.blk.same (hY _ h.blk.lt h.ne.2.1),?_,q2b h.lev fun i hi=>hYY i (.inl (h.inY i (hi.elim .inl fun e=> .inr (.inl e)))),hO,Nat.succ_le_succ h.cnt,fun x=>?_,fun x e hx=>?_,fun i hi=> .inl (h.inY i hi),fun i hi=>Nat.lt_of_lt_of_le (hYl i hi).1 hoff.size,fun i hi=>(hYl i hi).2,h.ne⟩
 ·refine h.mem.same fun i hi=>?_
  rcases hi with rfl|hi
  ·exact hY _ h.mem.blk.lt h.ne.2.2
  ·exact hYY i (.inl (h.inY i (.inr (.inr hi))))
 ·exact z4z (e:=⟨t,L,may⟩) h.look h.map.isMap x
 ·simp only at hx
  by_cases hxn:x=n
  ·rw[if_pos hxn] at hx
   injection hx with hx;subst hx;subst hxn;exact (htb.same hoff.size fun i hi=>hYY i (.inr hi)).mono (fun i hi=> .inr hi) fun i hi=>Nat.lt_of_lt_of_le (hYl i hi).1 hoff.size
  ·rw[if_neg hxn] at hx
   exact ((h.tab x e hx).same hoff.size fun i hi=>hYY i (.inl hi)).mono (fun i hi=> .inl hi) fun i hi=>Nat.lt_of_lt_of_le (hYl i hi).1 hoff.size
theorem z7g (h : DkF wb w g F σ K) {m:Man} {ao:Option Addr} {cap:Nat} (hG:Grid w ao m.L.length cap m.L) (hsum:m.L.flatten.length≤1000000000) (hwf: ∀x∈m.L.flatten,(Lit.int .i64 x).wf=true) (hs0:0≤m.sd) (hs1:m.sd<18446744073709551616) (rate:Nat):
  Calls Tryz.prog 121 #[.pointer (some ⟨g,0,none⟩),.agg #[.int .i64 m.nx,.int .i64 m.ck,.int .u64 m.sd,.slice ao m.L.length cap],.float .f64 rate] w (z2N wb w g m rate K σ):=by
 have HD:=η42 h;have hx1:=q0D w (.cells #[.int .i64 m.nx,.int .i64 m.ck,.int .u64 m.sd,.slice ao m.L.length cap] 81);have hbk:=Blk.new w 81 #[.int .i64 m.nx,.int .i64 m.ck,.int .u64 m.sd,.slice ao m.L.length cap];have HSz:=η42 (q7N (h.d.ext hx1) [] (by decide));have hc: ∃z c,q1c σ []=(z,c)∧(c==1)=false∧((c==61)=σ.down)∧(σ.down=true→c=61):=by
  unfold q1c
  cases σ.down with
  |true=>exact ⟨_,_,rfl,rfl,rfl,fun _=>rfl⟩
  | false=>
   simp only[Bool.false_eq_true,if_false]
   split
   ·exact ⟨_,_,rfl,rfl,rfl,fun h=>by cases h⟩
   ·exact ⟨_,_,rfl,rfl,rfl,fun h=>by cases h⟩
 obtain ⟨z,c,hz,hc1,hc2,hc3⟩:=hc;rw[hz] at HSz;have HV:=η42 (z0t m.nx m.ck m.sd ao m.L.length cap m.L _ (hG.ext hx1) (by omega) hwf);have HG:=η42 hG;have HX1:=η42 hx1;have HBk:=η42 hbk;obtain ⟨w1,hw1⟩: ∃w1,w.alloc (.cells #[.int .i64 m.nx,.int .i64 m.ck,.int .u64 m.sd,.slice ao m.L.length cap] 81)=w1:=⟨_,rfl⟩
 rw[hw1] at HSz HV HX1 HBk;obtain ⟨p,hp⟩: ∃p,w.heap.size=p:=⟨_,rfl⟩
 have HP:=η42 hp;rw[hp] at HBk;have b0:w1.cell? ⟨p,0,none⟩=some (.int .i64 m.nx):=HBk.out.cell 0;have b1:w1.cell? ⟨p,1,none⟩=some (.int .i64 m.ck):=HBk.out.cell 1;have b2:w1.cell? ⟨p,2,none⟩=some (.int .u64 m.sd):=HBk.out.cell 2;have b3:w1.cell? ⟨p,3,none⟩=some (.slice ao m.L.length cap):=HBk.out.cell 3;have hmm:=@run_makeMap Tryz.prog;clear h hx1 hbk hz hG
 cases hv:q0Z m.nx m.ck m.L with
 | false=>
  rw[hv] at HV;have HVv:=η42 hv;clear hv;go_enter Tryz.func121,Tryz.ntmps121;go_wp2_with fail;refine HSz.out.mono ?_;rintro e w2 ⟨rfl,rfl⟩;go_wp2_with fail;refine HV.out.mono ?_;rintro e w2 ⟨rfl,hb2⟩;have HX2:=η42 (HX1.out.trans hb2);clear hb2;go_wp2_with fail;go_ret2;exact .inl ⟨HVv.out,rfl,⟨F,HD.out.grow HX2.out⟩,fun i hi=>HX2.out.block i (HD.out.k i hi).1⟩
 | true =>
  rw[hv] at HV;have HVv:=η42 hv;clear hv
  cases hdn:σ.down with
  | true=>
   rw[hdn] at hc2;obtain rfl:=hc3 hdn;have HDn:=η42 hdn;clear hdn hc3;go_enter Tryz.func121,Tryz.ntmps121;go_wp2_with fail;refine HSz.out.mono ?_;rintro e w2 ⟨rfl,rfl⟩;go_wp2_with fail;refine HV.out.mono ?_;rintro e w2 ⟨rfl,hb2⟩;have HX2:=η42 (HX1.out.trans hb2);clear hb2;go_wp2_with fail;go_ret2;exact .inr (.inl ⟨HVv.out,HDn.out,rfl,⟨F,HD.out.grow HX2.out⟩,fun i hi=>HX2.out.block i (HD.out.k i hi).1⟩)
  | false =>
   rw[hdn] at hc2;have HDn:=η42 hdn;have hman:m.ok:=⟨HVv.out,hs0,hs1⟩
   have hbd:=Man.bounds hman;clear hdn hc3;go_enter Tryz.func121,Tryz.ntmps121;go_wp2_with fail;refine HSz.out.mono ?_;rintro e w2 ⟨rfl,rfl⟩;go_wp2_with fail;refine HV.out.mono ?_;rintro e w2 ⟨rfl,hb2⟩;have HX2:=η42 (HX1.out.trans hb2);have b0:=q0A hb2 b0;have b1:=q0A hb2 b1;have b2:=q0A hb2 b2;have b3:=q0A hb2 b3;have HBk2:=η42 (HBk.out.ext hb2);clear hb2;go_wp2_with fail;refine (q7q m.nx m.ck m.sd ao m.L.length cap m.L w2 (HG.out.ext HX2.out) (fun i=>by have:=hbd.2.2.1 i;omega) (by omega)).mono ?_;rintro e w3 ⟨v3,vs3,rfl,hog3,hb3⟩;have HOg:=η42 hog3;have HX3:=η42 hb3;obtain ⟨a3,k3,rfl⟩:=hog3.own.slice;clear hog3 hb3;go_wp2_with fail;refine (y3t w3).mono ?_;rintro e w4 ⟨gm,rfl,hmem,hgm,hb4⟩;have HMm:=η42 hmem;have HX4:=η42 hb4;have b3:=q0A hb4 (q0A HX3.out b3);clear hmem hb4;obtain ⟨WX,hWX⟩: ∃WX,(w4.alloc (.map #[] 0)).alloc (.cells #[.pointer (some ⟨g,0,none⟩),.int .i64 m.nx,.int .i64 m.ck,.int .u64 m.sd,.slice a3 m.L.length k3,.float .f64 rate,.pointer (some ⟨gm,0,none⟩),.map (some w4.heap.size)] 142)=WX:=⟨_,rfl⟩
   have HX5:Hid (Ext w4 WX):=η42 (hWX▸q7K _ _ _);have HBI:Hid (Blk WX (w4.heap.size+1) 142 #[.pointer (some ⟨g,0,none⟩),.int .i64 m.nx,.int .i64 m.ck,.int .u64 m.sd,.slice a3 m.L.length k3,.float .f64 rate,.pointer (some ⟨gm,0,none⟩),.map (some w4.heap.size)]):=η42 (by
    have h:=Blk.new (w4.alloc (.map #[] 0)) 142 #[.pointer (some ⟨g,0,none⟩),.int .i64 m.nx,.int .i64 m.ck,.int .u64 m.sd,.slice a3 m.L.length k3,.float .f64 rate,.pointer (some ⟨gm,0,none⟩),.map (some w4.heap.size)];rw[World.size_alloc,hWX] at h;exact h)
   have HMP:Hid (WX.ownsMap Tryz.prog 3 q5Y w4.heap.size 0 (.map [])):=η42 (hWX▸(World.ownsMap_made (H:=Unit) w4 Tryz.prog 3 q5Y).alloc _);have HSX:Hid (WX.heap.size=w4.heap.size+2):=η42 (by rw[←hWX,World.size_alloc,World.size_alloc]);have b3X:=q0A HX5.out b3;have HXX:=η42 (((HX2.out.trans HX3.out).trans HX4.out).trans HX5.out);have hgX:gm<w4.heap.size:=HMm.out.blk.lt;have HIx:Hid (IxK wb WX g (w4.heap.size+1) ⟨m,rate,[],(fun _=>none),0⟩ σ K):=η42 (by
    have hD:=HD.out;have hsz2:=HX2.out.size;have hsz3:=HX3.out.size;have hsz4:=HX4.out.size;have hwb:=hD.ext.size;have hog:OGr WX w2.heap.size 55 3 (.slice a3 m.L.length k3) vs3 m.L:=(HOg.out.ext HX4.out).ext HX5.out;have hlt: ∀i,((Value.slice a3 m.L.length k3).ownBlock=some i∨ ∃q,(vs3.getD q (.slice none 0 0)).ownBlock=some i)→w2.heap.size≤i∧i<w3.heap.size:=fun i hi=>q4s HOg.out i hi
    refine ⟨F,gm,w4.heap.size,fun i=>((Value.slice a3 m.L.length k3).ownBlock=some i∨ ∃q,(vs3.getD q (.slice none 0 0)).ownBlock=some i),⟨hD.d.ext HXX.out,⟨⟨hman,okM.nil,Nat.zero_le _⟩,.slice a3 m.L.length k3,vs3,.slice none 0 0,.map [],0,⟨HBI.out,HMm.out.ext HX5.out,q6a hog (Nat.zero_le _),HMP.out,Nat.le_refl _,fun n=>rfl,fun n e he=>(by cases he),fun i hi=>?_,fun i hi=>Nat.lt_of_lt_of_le (hlt i hi).2 (by have:=HX5.out.size;omega),fun i hi hx=>?_,⟨by omega,by omega,by omega⟩⟩⟩,fun i hi=>?_⟩,hD.bF,fun i hi=>?_,fun i hi=>by have:=hlt i hi;omega,hD.ext.trans HXX.out,fun i hi=>?_⟩
    ·rcases hi with hi|hi|hi
     ·exact .inl hi
     ·exact .inr hi
     ·cases hi
    ·have h1:=hlt i hi
     rcases hx with rfl|rfl|rfl<;>omega
    ·have h1:=hD.d.Flt i hi
     exact ⟨fun hx=>by rcases hx with rfl|rfl|rfl<;>omega,fun hy=>by have:=hlt i hy;omega⟩
    ·rcases hi with rfl|rfl|rfl<;>omega
    ·have h1:=hD.k i hi
     have h2:=HXX.out.size;exact ⟨by omega,h1.2,fun hx=>by rcases hx with rfl|rfl|rfl<;>omega,fun hy=>by have:=hlt i hy;omega⟩)
   have HAl:=η42 (z2R ao m.L.length cap m.L WX (HG.out.ext HXX.out) (by omega));have hSt: ∀i,K i→i<w.heap.size:=fun i hi=>(HD.out.k i hi).1
   have HStX:Hid (Stay K w WX):=η42 fun i hi=>HXX.out.block i (hSt i hi)
   clear hmm;have hmm:=@run_makeMap Tryz.prog;go_wp2_with fail;refine HAl.out.mono ?_;rintro e w5 ⟨va,rfl,hall,hb5⟩;obtain ⟨aa,ka,rfl⟩:=hall.slice;obtain ⟨ns,hns⟩: ∃ns,m.L.flatten=ns:=⟨_,rfl⟩
   have HNs:=η42 hns;rw[hns] at hall;have HL0:=η42 (LsW.start HIx.out (W:=w5) hb5 hall);rw[hns];obtain ⟨R,hR⟩: ∃R,q3q σ ns (fun _=>none)=R:=⟨_,rfl⟩
   have HR:=η42 hR;have HFin:Hid (∀e w',((R.2.1≠0∧e= .returned (.tuple #[.pointer none,.int .i64 R.2.1])∧DkX wb w' g R.2.2 K∧Stay K WX w')∨(R.2.1=0∧ ∃gx t,e= .returned (.tuple #[.pointer (some ⟨gx,0,none⟩),.int .i64 0])∧IxK wb w' g gx ⟨m,rate,[],t,ns.length⟩ R.2.2 K∧Stay K WX w'∧ ∀n,(t n).map TE.L=R.1 n))→z2N wb w g m rate K σ e w'):=η42 (by
    intro e w' h;unfold z2N;rw[hns,hR];rcases h with ⟨q1,q2,q3,q4⟩|⟨q1,gx,t,q2,q3,q4,q5⟩
    ·exact .inr (.inr (.inl ⟨HVv.out,HDn.out,q1,q2,q3,HStX.out.trans q4⟩))
    ·exact .inr (.inr (.inr ⟨HVv.out,HDn.out,q1,gx,t,q2,q3,HStX.out.trans q4,q5⟩)))
   obtain ⟨n,hn⟩: ∃n,ns.length=n:=⟨_,rfl⟩
   have HNl:=η42 hn;have hn40:n≤40:=by rw[←hn,←hns];exact hbd.2.1
   have HBd:=η42 hbd;obtain ⟨gx,hgx⟩: ∃gx,w4.heap.size+1=gx:=⟨_,rfl⟩
   rw[hn] at HL0;rw[hgx] at HL0;rw[hn];simp only[hgx];clear hall hb5 hns hn HAl HX1 HX2 HX3 HX4 HX5 HBI HMP HSX b3X b0 b1 b2 b3 HXX HIx HMm HOg hmm hR hbd HV HSz HG HBk HBk2 HP HStX hc1 hc2 hWX hgX hgm hgx;go_wp2_with fail
   go_loopw [44] (fun i W=> ∃(k:Nat) (t:Int→Option TE) (acc:Int→Option (List En)) (τ:DM),k≤n∧i= .int .i64 (k:Int)∧LsW wb WX W g gx ⟨m,rate,[],t,k⟩ τ K (.slice aa n ka) (.slice none 0 0) [] ns [] WX.heap.size∧(∀x,(t x).map TE.L=acc x)∧q3q τ (ns.drop k) acc=R) (fun i _=>n-(intOf i).toNat)
   case atStart=>exact ⟨0,fun _=>none,fun _=>none,σ,Nat.zero_le _,rfl,HL0.out,fun x=>rfl,HR.out⟩
   case round =>
    obtain ⟨k,tt,acc,τ,hk,rfl,hls,htt,hrr⟩:=hrel;have HL:=η42 hls;have HRr:=η42 hrr;have HTt:=η42 htt;clear hls hrr htt;by_cases hlt:k<n
    ·have hd:decide ((k:Int)<(n:Int))=true:=decide_eq_true (by omega)
     have q1:IntKind.i64.wrap ((k:Int)+1)=(k:Int)+1:=by rw[IntKind.wrap_i64];omega
     have q5:(k:Int)<(n:Int):=by omega
     obtain ⟨_,_,ea,hia⟩:=q1z HL.out.all;rw[HNl.out] at ea
     cases ea;rw[HNl.out] at hia;obtain ⟨ba,oa,rfl,n0⟩:=hia.at hlt;have hkl:k<ns.length:=by rw[HNl.out];exact hlt
     have hdrop:ns.drop k=ns.getD k 0::ns.drop (k+1):=by
      rw[List.drop_eq_getElem_cons hkl,List.getD_eq_getElem?_getD,List.getElem?_eq_getElem hkl];rfl
     have hmem:ns.getD k 0∈m.L.flatten:=by rw[HNs.out];exact q3R ns k hkl
     have hrr:=HRr.out;rw[hdrop] at hrr;have hwf2:=(HBd.out.2.2.2.1 _ hmem).1;generalize ns.getD k 0=nk at*;rw[q3q] at hrr;obtain ⟨F2,gm2,gt2,Y2,h2⟩:=HL.out.i;have HOp:=η42 (z6j h2.i.d nk);have HF2:=η42 h2;obtain ⟨r,hr⟩: ∃r,q5C τ nk=r:=⟨_,rfl⟩
     rw[hr] at hrr HOp;obtain ⟨o,c,τ2⟩:=r;clear hia hdrop hmem h2
     cases o with
     | none=>
      simp only at hrr;have hc:=z0o hr;have g2:(c !=0)=true:=by simpa using hc
      have HRR:=η42 hrr;have HC:=η42 hc;clear hr hrr hc;go_wp2_with fail;refine HOp.out.mono ?_;rintro e3 w3 ⟨rfl,hd3⟩;obtain ⟨h3,hst3⟩:=HF2.out.disk hd3;have HE:Hid (z2N wb w g m rate K σ (.returned (.tuple #[.pointer none,.int .i64 c])) w3):=η42 (HFin.out _ _ (.inl (by
       rw[←HRR.out];exact ⟨HC.out,rfl,⟨_,h3.i.d,h3.bF,h3.ext,fun i hi=>⟨(h3.k i (.inl hi)).1,(h3.k i (.inl hi)).2.1⟩⟩,HL.out.stay.trans fun i hi=>hst3 i (.inl hi)⟩)))
      clear hd3 h3 hst3;go_wp2_with fail;go_ret2;exact HE.out
     | some L=>
      simp only at hrr;obtain rfl:=q9s hr;have HRR:=η42 hrr;clear hr hrr;go_wp2_with fail;refine HOp.out.mono ?_;rintro e3 w7 ⟨t,may,T,w6,rfl,hd3,hx7,htb,hT⟩;obtain ⟨h3,hst3⟩:=HF2.out.disk hd3;have h7:=h3.grow hx7;have hst7:Stay (fun i=>K i∨z2w (.slice (some ⟨ba,oa,none⟩) n ka) (.slice none 0 0) [] i) wr w7:=hst3.trans (h3.kExt hx7);obtain ⟨hok7,v7,vs7,vm7,D7,nn7,hi7⟩:=h7.i.x;have c7:=hi7.c7;have hcn:=hi7.cnt;simp only at hcn;obtain ⟨w8,hup,hO8,hg8⟩:=hi7.map.update Tryz.keyInt Tryz.underlying140 (by unfold maxLen;omega) (keyOf_int_mk Tryz.underlying3 hwf2) (z1P t);have hoff8:OffS (fun i=>i=gt2) w7 w8:=OffS.grown hg8 fun i hi=>by injection hi with hi;exact hi.symm
      have hTX: ∀i,T i→¬InX gx gm2 gt2 i:=fun i hi hx=>by have:=hT i hi;have:=h3.i.x.xlt i hx;omega
      have hix:=hi7.putO hO8 hoff8 htb hTX;obtain ⟨h8,hst8⟩:=h7.turnV (K:=fun i=>K i∨z2w (.slice (some ⟨ba,oa,none⟩) n ka) (.slice none 0 0) [] i) (st1:=⟨m,rate,[],(fun x=>if x=nk then some ⟨t,L,may⟩ else tt x),k+1⟩) (Y1:=fun i=>Y2 i∨T i) ⟨⟨hman,okM.nil,by show k+1≤1000000;omega⟩,_,_,_,_,_,hix⟩ (hoff8.mono fun i _ hi=> .inr (.inr hi)) (fun i hi=>by
       rcases hi with hi|hi
       ·exact ⟨h7.bY i hi,fun hf=>(h7.i.ap i hf).2 hi⟩
       ·have h9:=hT i hi
        exact ⟨by have:=h3.ext.size;omega,fun hf=>by have:=h3.i.d.Flt i hf;omega⟩) (fun i hi=>⟨hi,fun hy=>by
       rcases hy with hy|hy
       ·exact (h7.k i hi).2.2.2 hy
       ·have:=hT i hy;have:=(h3.k i hi).1;omega⟩)
      have HL8:=η42 (HL.out.step ⟨_,_,_,_,h8⟩ (hst7.trans hst8) (by have:=hd3.off.size;have:=hx7.size;have:=hoff8.size;omega));have HTt2:Hid (∀x,(if x=nk then some (⟨t,L,may⟩:TE) else tt x).map TE.L=if x=nk then some L else acc x):=η42 fun x=>by
       by_cases hx:x=nk
       ·rw[if_pos hx,if_pos hx];rfl
       ·rw[if_neg hx,if_neg hx];exact HTt.out x
      have HUp:=η42 hup;clear hd3 h3 hst3 h7 hst7 hok7 hi7 hO8 hg8 hoff8 hTX hix h8 hst8 htb hT hx7 hcn;go_wp2_with fail
      go_roundw
      case rel=>exact ⟨k+1,_,_,τ2,hlt,by go_num,HL8.out,HTt2.out,HRR.out⟩
      case measure=>simp[intOf];omega
    ·obtain rfl:k=n:=by omega
     have hd:decide ((k:Int)<(k:Int))=false:=decide_eq_false (by omega);have hrr:=HRr.out;rw[List.drop_of_length_le (by rw[HNl.out];exact Nat.le_refl _),q3q] at hrr;have HE:Hid (z2N wb w g m rate K σ (.returned (.tuple #[.pointer (some ⟨gx,0,none⟩),.int .i64 0])) wr):=η42 (HFin.out _ _ (.inr (by
      rw[←hrr];exact ⟨rfl,gx,tt,rfl,by rw[HNl.out];exact HL.out.i.beside fun i hi=> .inl hi,HL.out.stay,HTt.out⟩)))
     clear hrr;go_wp2_with fail;go_ret2;exact HE.out
end
end
section
open Go.RowKit
def toc (t:To):List Value:=[.string ⟨t.s.toArray⟩,.int .i64 t.v,.string ⟨t.e.ty.toArray⟩,.string ⟨t.e.da.toArray⟩,.float .f64 t.e.we]
def toV (t:To):Value:= .agg #[.string ⟨t.s.toArray⟩,.int .i64 t.v,.string ⟨t.e.ty.toArray⟩,.string ⟨t.e.da.toArray⟩,.float .f64 t.e.we]
def q3K (L:List To):List Value:=(L.map toc).flatten
theorem q3T (t:To):(toc t).length=5:=rfl
theorem q3i (t:To) (L:List To):q3K (t::L)=toc t++q3K L:=rfl
theorem q5t (L M:List To):q3K (L++M)=q3K L++q3K M:=by unfold q3K;rw[List.map_append,List.flatten_append]
theorem q9R (L:List To) (t:To):q3K (L++[t])=q3K L++toc t:=by rw[q5t];unfold q3K;simp
theorem q3g (L:List To):(q3K L).length=L.length*5:=by
 induction L with
 |nil=>rfl
 |cons k L ih=>rw[q3i,List.length_append,ih,List.length_cons,q3T];omega
theorem q5B : ∀(L:List To) (i j:Nat),i<L.length→j<5→(q3K L)[i*5+j]? =(toc (L.getD i to0))[j]?
 |[],i,j,h,_=>by simp at h
 | k::L,0,j,_,hj=>by
  rw[q3i,List.getElem?_append_left (by rw[q3T];omega)];simp
 | k::L,i+1,j,h,hj=>by
  rw[q3i,List.getElem?_append_right (by rw[q3T];omega),show (i+1)*5+j-(toc k).length=i*5+j by rw[q3T];omega,q5B L i j (by simpa using h) hj];simp
theorem z0i (L:List To): ∀u∈q3K L,u.oneCell'=true:=fun u hu=>by
 unfold q3K at hu;obtain ⟨l,hl,hf⟩:=List.mem_flatten.1 hu;obtain ⟨f,_,rfl⟩:=List.mem_map.1 hl;unfold toc at hf;simp only[List.mem_cons,List.not_mem_nil,or_false] at hf;rcases hf with rfl|rfl|rfl|rfl|rfl<;>rfl
structure Tos (w:World) (ao:Option Addr) (n cap:Nat) (L:List To):Prop where
 len:L.length=n
 fits:n≤cap
 bound:cap≤9223372036854775807
 nil:ao=none→cap=0
 rd:Rd w ao (q3K L)
theorem Tos.ext {w w':World} {ao:Option Addr} {n cap:Nat} {L:List To} (h:Tos w ao n cap L) (k:Ext w w'):Tos w' ao n cap L:=⟨h.len,h.fits,h.bound,h.nil,h.rd.ext k⟩
theorem Tos.at {w:World} {ao:Option Addr} {n cap:Nat} {L:List To} (h:Tos w ao n cap L) {i:Nat} (hi:i<n):
  ∃b off,ao=some ⟨b,off,none⟩∧w.cell? ⟨b,off+i*5,none⟩=some (.string ⟨(L.getD i to0).s.toArray⟩)∧w.cell? ⟨b,off+i*5+1,none⟩=some (.int .i64 (L.getD i to0).v)∧w.cell? ⟨b,off+i*5+2,none⟩=some (.string ⟨(L.getD i to0).e.ty.toArray⟩)∧w.cell? ⟨b,off+i*5+3,none⟩=some (.string ⟨(L.getD i to0).e.da.toArray⟩)∧w.cell? ⟨b,off+i*5+4,none⟩=some (.float .f64 (L.getD i to0).e.we):=by
 have hl:=h.len;have k0:=q5B L i 0 (by omega) (by decide);have k1:=q5B L i 1 (by omega) (by decide);have k2:=q5B L i 2 (by omega) (by decide);have k3:=q5B L i 3 (by omega) (by decide);have k4:=q5B L i 4 (by omega) (by decide);obtain ⟨b,off,rfl,h0⟩:=h.rd _ _ k0;obtain ⟨_,_,e1,h1⟩:=h.rd _ _ k1
 cases e1;obtain ⟨_,_,e2,h2⟩:=h.rd _ _ k2
 cases e2;obtain ⟨_,_,e3,h3⟩:=h.rd _ _ k3
 cases e3;obtain ⟨_,_,e4,h4⟩:=h.rd _ _ k4
 cases e4;exact ⟨b,off,rfl,h0,h1,h2,h3,h4⟩
theorem Tos.of_own {w:World} {B:Nat} {e:TypeId} {v:Value} {L:List To} (h:Own w B e 5 v L.length (q3K L)): ∃ao cap,v= .slice ao L.length cap∧Tos w ao L.length cap L:=by
 obtain ⟨ao,cap,rfl,h1,h2,h3,h4⟩:=h.rd;exact ⟨ao,cap,rfl,rfl,h1,h2,h3,h4⟩
theorem Tryz.infoTo :(Tryz.prog.info? 76).map (fun i=>(i.zero,i.size,i.bytes))=some (some (.agg #[.string ⟨#[]⟩,.int .i64 0,.string ⟨#[]⟩,.string ⟨#[]⟩,.float .f64 0]),5,64):=by kernel_rfl
end
section
open Go.RowKit
def swp (T:List To) (k:Nat):List To:=(List.range T.length).map fun i=>if i<k∨T.length-k≤i then T.getD i to0 else T.getD (T.length-1-i) to0
theorem q3U (T:List To) (k:Nat):(swp T k).length=T.length:=by unfold swp;simp
theorem q8a (T:List To) (k:Nat) {i:Nat} (h:i<T.length):(swp T k)[i]? =some (if i<k∨T.length-k≤i then T.getD i to0 else T.getD (T.length-1-i) to0):=by
 unfold swp;rw[List.getElem?_map,List.getElem?_range h];rfl
theorem z4m (T:List To) (k:Nat) {i:Nat} (h:i<T.length):(swp T k).getD i to0=if i<k∨T.length-k≤i then T.getD i to0 else T.getD (T.length-1-i) to0:=by
 rw[List.getD_eq_getElem?_getD,q8a T k h];rfl
theorem z9y (T:List To):swp T 0=T.reverse:=by
 apply List.ext_getElem?;intro i;by_cases h:i<T.length
 ·rw[q8a T 0 h,if_neg (by omega),List.getElem?_reverse h,List.getD_eq_getElem?_getD,List.getElem?_eq_getElem (by omega)];rfl
 ·rw[List.getElem?_eq_none (by rw[q3U];omega),List.getElem?_eq_none (by rw[List.length_reverse];omega)]
theorem z9V (T:List To) {k:Nat} (hk:T.length/2≤k):swp T k=T:=by
 apply List.ext_getElem?;intro i;by_cases h:i<T.length
 ·rw[q8a T k h,List.getElem?_eq_getElem h]
  by_cases h2:i<k∨T.length-k≤i
  ·rw[if_pos h2,List.getD_eq_getElem?_getD,List.getElem?_eq_getElem h];rfl
  ·rw[if_neg h2,show T.length-1-i=i by omega,List.getD_eq_getElem?_getD,List.getElem?_eq_getElem h];rfl
 ·rw[List.getElem?_eq_none (by rw[q3U];omega),List.getElem?_eq_none (by omega)]
theorem y1m (T:List To) {k:Nat} (hk:k<T.length/2):(swp T k).getD k to0=T.getD (T.length-1-k) to0:=by
 rw[z4m T k (by omega),if_neg (by omega)]
theorem z9Q (T:List To) {k:Nat} (hk:k<T.length/2):(swp T k).getD (T.length-1-k) to0=T.getD k to0:=by
 rw[z4m T k (by omega),if_neg (by omega),show T.length-1-(T.length-1-k)=k by omega]
theorem z9e (T:List To) {k:Nat} (hk:k<T.length/2):swp T (k+1)=((swp T k).set k (T.getD k to0)).set (T.length-1-k) (T.getD (T.length-1-k) to0):=by
 apply List.ext_getElem?;intro i;by_cases h:i<T.length
 ·rw [q8a T (k+1) h,List.getElem?_set,List.getElem?_set,q8a T k h]
  simp only[List.length_set,q3U];by_cases h1:T.length-1-k=i
  ·subst h1;rw[if_pos (by omega),if_pos rfl,if_pos (by omega)]
  ·by_cases h2:k=i
   ·subst h2;rw[if_pos (by omega),if_neg h1,if_pos rfl,if_pos (by omega)]
   ·rw[if_neg h1,if_neg h2]
    by_cases h3:i<k∨T.length-k≤i
    ·rw[if_pos h3,if_pos (by omega)]
    ·rw[if_neg h3,if_neg (by omega)]
 ·rw[List.getElem?_eq_none (by rw[q3U];omega),List.getElem?_eq_none (by rw[List.length_set,List.length_set,q3U];omega)]
end
section
open Go.RowKit
theorem y2D (b:Nat): ∃x:Int,∀w:World,Calls Tryz.prog 149 #[.float .f64 b] w fun e w'=>e= .returned (.int .u64 x)∧w=w':=by
 by_cases h:((b:Int)<9223372036854775808)
 ·have hd:decide ((9223372036854775808:Int)≤(b:Int))=false:=decide_eq_false (by omega)
  refine ⟨(b:Int)+9223372036854775808,fun w=>?_⟩;have hfb:=q9J;go_enter Tryz.func149,Tryz.ntmps149;go_wp2_with fail;go_ret;exact ⟨rfl,rfl⟩
 ·have hd:decide ((9223372036854775808:Int)≤(b:Int))=true:=decide_eq_true (by omega)
  refine ⟨IntKind.u64.wrap (18446744073709551615-(b:Int)),fun w=>?_⟩;have hfb:=q9J;go_enter Tryz.func149,Tryz.ntmps149;go_wp2_with fail;go_ret;exact ⟨rfl,rfl⟩
theorem y0B (b:Nat) (w:World):Calls Tryz.prog 94 #[.float .f64 b,.float .f64 b] w fun e w'=>e= .returned (.bool true)∧w=w':=by
 obtain ⟨x,hx⟩:=y2D b;have HX:=η42 hx;clear hx;go_enter Tryz.func94,Tryz.ntmps94;go_wp2_with fail;refine (HX.out _).mono ?_;rintro e w1 ⟨rfl,rfl⟩;go_wp2_with fail;refine (HX.out _).mono ?_;rintro e w1 ⟨rfl,rfl⟩;go_wp2_with fail;go_ret;exact ⟨by simp,rfl⟩
theorem z9h (e:Ev) (w:World):Calls Tryz.prog 51 #[evV e,evV e] w fun r w'=>r= .returned (.bool true)∧Ext w w':=by
 obtain ⟨ty,da,we⟩:=e;have hx1:=q0D w (.cells #[.string ⟨ty.toArray⟩,.string ⟨da.toArray⟩,.float .f64 we] 48);have hx2:=q0D (w.alloc (.cells #[.string ⟨ty.toArray⟩,.string ⟨da.toArray⟩,.float .f64 we] 48)) (.cells #[.string ⟨ty.toArray⟩,.string ⟨da.toArray⟩,.float .f64 we] 48);have HX:=η42 (hx1.trans hx2);have hb1:=(Blk.new w 48 #[.string ⟨ty.toArray⟩,.string ⟨da.toArray⟩,.float .f64 we]).ext hx2;have hb2:=Blk.new (w.alloc (.cells #[.string ⟨ty.toArray⟩,.string ⟨da.toArray⟩,.float .f64 we] 48)) 48 #[.string ⟨ty.toArray⟩,.string ⟨da.toArray⟩,.float .f64 we];rw[World.size_alloc] at hb2;have k0:=hb1.cell 0;have k1:=hb1.cell 1;have k2:=hb1.cell 2;have d0:=hb2.cell 0;have d1:=hb2.cell 1;have d2:=hb2.cell 2;clear hx1 hx2 hb1 hb2;unfold evV;go_enter Tryz.func51,Tryz.ntmps51;go_wp2_with fail;refine (y0B we _).mono ?_;rintro e w1 ⟨rfl,rfl⟩;go_wp2_with fail;go_ret;exact ⟨rfl,HX.out⟩
theorem z9P (t:To) (w:World):Calls Tryz.prog 55 #[toV t,toV t] w fun r w'=>r= .returned (.bool true)∧Ext w w':=by
 obtain ⟨s,v,⟨ty,da,we⟩⟩:=t;have hx1:=q0D w (.cells #[.string ⟨s.toArray⟩,.int .i64 v,.string ⟨ty.toArray⟩,.string ⟨da.toArray⟩,.float .f64 we] 76);have hx2:=q0D (w.alloc (.cells #[.string ⟨s.toArray⟩,.int .i64 v,.string ⟨ty.toArray⟩,.string ⟨da.toArray⟩,.float .f64 we] 76)) (.cells #[.string ⟨s.toArray⟩,.int .i64 v,.string ⟨ty.toArray⟩,.string ⟨da.toArray⟩,.float .f64 we] 76);have HX:=η42 (hx1.trans hx2);have hb1:=(Blk.new w 76 #[.string ⟨s.toArray⟩,.int .i64 v,.string ⟨ty.toArray⟩,.string ⟨da.toArray⟩,.float .f64 we]).ext hx2;have hb2:=Blk.new (w.alloc (.cells #[.string ⟨s.toArray⟩,.int .i64 v,.string ⟨ty.toArray⟩,.string ⟨da.toArray⟩,.float .f64 we] 76)) 76 #[.string ⟨s.toArray⟩,.int .i64 v,.string ⟨ty.toArray⟩,.string ⟨da.toArray⟩,.float .f64 we];rw[World.size_alloc] at hb2;have k0:=hb1.cell 0;have k1:=hb1.cell 1;have k2:=hb1.cell 2;have k3:=hb1.cell 3;have k4:=hb1.cell 4;have d0:=hb2.cell 0;have d1:=hb2.cell 1;have d2:=hb2.cell 2;have d3:=hb2.cell 3;have d4:=hb2.cell 4
 have HS:=η42 (fun W=>z9h ⟨ty,da,we⟩ W);clear hx1 hx2 hb1 hb2;unfold toV;go_enter Tryz.func55,Tryz.ntmps55;go_wp2_with fail;refine (HS.out _).mono ?_;rintro e w1 ⟨rfl,hx⟩;have HX2:=η42 (HX.out.trans hx);clear hx;go_wp2_with fail;go_ret;exact ⟨rfl,HX2.out⟩
theorem z8n {ao bo:Option Addr} {n cap cap':Nat} {T:List To} (w:World) (ha:Tos w ao n cap T) (hb:Tos w bo n cap' T):
  Calls Tryz.prog 21 #[.slice ao n cap,.slice bo n cap'] w fun r w'=>r= .returned (.bool true)∧Ext w w':=by
 have HA:=η42 ha;have HB:=η42 hb;have b1:=ha.fits;have b2:=ha.bound;have b3:=hb.fits;have b4:=hb.bound;clear ha hb;go_enter Tryz.func21,Tryz.ntmps21;go_wp2_with fail
 go_loopw [5] (fun i W=> ∃k:Nat,k≤n∧i= .int .i64 (k:Int)∧Ext w W) (fun i _=>n-(intOf i).toNat)
 case atStart=>exact ⟨0,Nat.zero_le _,rfl,Ext.refl _⟩
 case round=>
  obtain ⟨k,hk,rfl,hx⟩:=hrel;have HX:=η42 hx;by_cases hlt:k<n
  ·have hd:decide ((k:Int)<(n:Int))=true:=decide_eq_true (by omega)
   have hki:(k:Int)<(n:Int):=by omega
   have q8:IntKind.i64.wrap ((k:Int)+1)=(k:Int)+1:=by rw[IntKind.wrap_i64];omega
   obtain ⟨ab,aof,rfl,a0,a1,a2,a3,a4⟩:=(HA.out.ext (hx.trans (Ext.refl _).drew)).at hlt;obtain ⟨bb,bof,rfl,c0,c1,c2,c3,c4⟩:=(HB.out.ext (hx.trans (Ext.refl _).drew)).at hlt;generalize T.getD k to0=t at*;have HT:=η42 (z9P t);unfold toV at HT;clear hx;go_wp2_with fail
   go_region_law (go_simp;first|(go_at_call 55;refine (HT.out _).mono ?_;rintro e wa ⟨rfl,hxa⟩;have HXa:=η42 ((HX.out.trans (Ext.refl _).drew).trans hxa);clear hxa))
   all_goals
    go_wp2_with fail
    go_roundw
    case rel=>exact ⟨k+1,by omega,by go_num,HXa.out⟩
    case measure=>simp[intOf];omega
  ·obtain rfl:k=n:=by omega
   have hd:decide ((k:Int)<(k:Int))=false:=decide_eq_false (by omega);clear hx;go_wp2_with fail;go_ret;exact ⟨rfl,HX.out⟩
end
end Go.Proofs.YtjjfiejoeelndaaGreatDoor
