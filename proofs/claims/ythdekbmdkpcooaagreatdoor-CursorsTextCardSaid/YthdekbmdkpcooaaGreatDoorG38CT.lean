/- Walks. -/
import Derived.Test.YthdekbmdkpcooaaGreatDoorG35CT
import Derived.Laws.ResultCell
set_option linter.unusedVariables false
set_option linter.unusedSimpArgs false
set_option maxRecDepth 100000
set_option maxHeartbeats 3200000
namespace Go.Proofs.YthdekbmdkpcooaaGreatDoor
theorem η38 {p:Prop} (h:p):Go.RowKit.Hid p:=Lib.hid h
section
open Go.RowKit
def z1E :Nat→List UInt8→Bool→List Int→List Int×List UInt8×Bool
 |0,s,ok,acc=>(acc,s,ok)
 |i+1,s,ok,acc=>if ok then z1E i (q1l 4 s) (q2w 4 s ok) (acc++[(q3I 4 s:Int)]) else (acc,s,ok)
def q3y :Nat→List UInt8→Bool→List (List Int)→List (List Int)×List UInt8×Bool
 |0,s,ok,acc=>(acc,s,ok)
 |k+1,s,ok,acc=>if ok then q3y k (z1E (q3I 1 s) (q1l 1 s) (q2w 1 s ok) []).2.1 (z1E (q3I 1 s) (q1l 1 s) (q2w 1 s ok) []).2.2 (acc++[(z1E (q3I 1 s) (q1l 1 s) (q2w 1 s ok) []).1]) else (acc,s,ok)
theorem q4T (k:Nat) (s:List UInt8):q3I k s<256^k:=by
 unfold q3I
 split
 ·exact Nat.pow_pos (by decide)
 ·have:=q1p (s.take k)
  rwa [List.length_take,Nat.min_eq_left (by omega)] at this
theorem q4R (k:Nat) (s:List UInt8):(q1l k s).length≤s.length:=by unfold q1l;split<;>simp
structure q6b where
 nx:Int
 ck:Int
 sd:Int
 L:List (List Int)
 r:List UInt8
 ok:Bool
def q2g (s:List UInt8):q6b:=
 let r0:=s.drop 4
 let r1:=q1l 4 r0;let o1:=q2w 4 r0 true
 let r2:=q1l 4 r1;let o2:=q2w 4 r1 o1
 let r3:=q1l 8 r2;let o3:=q2w 8 r2 o2
 let r4:=q1l 1 r3;let o4:=q2w 1 r3 o3
 let p:=q3y (q3I 1 r3) r4 o4 []
 ⟨q3I 4 r0,q3I 4 r1,q3I 8 r2,p.1,p.2.1,p.2.2⟩
def z4e (x:Int):Prop:=0≤x∧x<4294967296
structure Got where
 nx:Int
 ck:Int
 sd:Int
 L:List (List Int)
 en:Int
def z4N :Got:=⟨0,0,0,[],90⟩
def q3Q (t:List UInt8):Bool:=decide (4≤t.length)&&decide (t.take 4=[105,109,97,112])
def q1z (p:q6b) (s:List UInt8):Bool:=p.ok&&decide (p.r=[])&&q0d p.nx p.ck p.L&&decide ((q3H p.nx p.ck p.sd p.L).1=s)
def q2y (s:List UInt8):Got:=
 if q1q s&&q3Q (q1j s) then (if q1z (q2g (q1j s)) s then ⟨(q2g (q1j s)).nx,(q2g (q1j s)).ck,(q2g (q1j s)).sd,(q2g (q1j s)).L,0⟩ else z4N) else z4N
def RetM (w:World) (g:Got) (e:Ending) (w':World):Prop:=
 ∃v vs,e= .returned (.tuple #[.agg #[.int .i64 g.nx,.int .i64 g.ck,.int .u64 g.sd,v],.int .i64 g.en])∧OGr w' w.heap.size 36 3 v vs g.L∧Ext w w'
theorem z3G {w w1:World} (h:Ext w w1) (g:Nat) (hg:w.heap.size≤g) (a b c d:Value):Ext w ((((w1.setCell ⟨g,0,none⟩ a).setCell ⟨g,1,none⟩ b).setCell ⟨g,2,none⟩ c).setCell ⟨g,3,none⟩ d):=
 Below.setCell (Below.setCell (Below.setCell (Below.setCell h hg a) hg b) hg c) hg d
theorem RetM.bad {w w1:World} (h:Ext w w1) (g:Nat) (hg:w.heap.size≤g) (s:List UInt8) (hs:q2y s=z4N) (a b c d:Value):
  RetM w (q2y s) (.returned (.tuple #[.agg #[.int .i64 0,.int .i64 0,.int .u64 0,.slice none 0 0],.int .i64 90])) ((((w1.setCell ⟨g,0,none⟩ a).setCell ⟨g,1,none⟩ b).setCell ⟨g,2,none⟩ c).setCell ⟨g,3,none⟩ d):=by
 rw[hs];exact ⟨_,_,rfl,OGr.nil _ _ _ _,z3G h g hg a b c d⟩
theorem z3Y {w w1:World} {a b c d:Value} {t:TypeId} (h:Ext (w.alloc (.cells #[a,b,c,d] t)) w1):
  w1.frozen? ⟨w.heap.size,0,none⟩=false∧w1.frozen? ⟨w.heap.size,1,none⟩=false∧w1.frozen? ⟨w.heap.size,2,none⟩=false∧w1.frozen? ⟨w.heap.size,3,none⟩=false:=by
 have k:=z4m (w:=w) (Ext.refl (w.alloc (.cells #[a,b,c,d] t)));exact ⟨q3b h k.1 (by simp),q3b h k.2.1 (by simp),q3b h k.2.2.1 (by simp),q3b h k.2.2.2 (by simp)⟩
theorem z6m {t:List UInt8} (h:q3Q t=false):(decide ((t.length:Int)<4)||!(t.take 4==[105,109,97,112]))=true:=by
 unfold q3Q at h;rw[Bool.and_eq_false_iff,decide_eq_false_iff_not,decide_eq_false_iff_not] at h;rw[Bool.or_eq_true,decide_eq_true_iff];rcases h with h|h
 ·left;omega
 ·right;simpa using h
theorem q7u (m:Nat): ∀L:List (List Int),(∀r∈L,r.length≤m)→L.flatten.length≤m*L.length
 |[],_=>by simp
 | r::L,h=>by
  have h1:=h r (by simp);have h2:=q7u m L fun x hx=>h x (by simp[hx])
  simp only[List.flatten_cons,List.length_append,List.length_cons,Nat.mul_add];omega
def Mbx (w:World) (g:Nat) (a b c:Int) (v:Value):Prop:=w.heap[g]? =some (.cells #[.int .i64 a,.int .i64 b,.int .u64 c,v] 148 (0,0))
theorem Mbx.cs {w:World} {g:Nat} {a b c:Int} {v:Value} (h:Mbx w g a b c v):w.cell? ⟨g,0,none⟩=some (.int .i64 a)∧w.cell? ⟨g,1,none⟩=some (.int .i64 b)∧w.cell? ⟨g,2,none⟩=some (.int .u64 c)∧w.cell? ⟨g,3,none⟩=some v∧w.frozen? ⟨g,3,none⟩=false:=by
 unfold Mbx at h;simp[World.cell?,World.frozen?,h]
theorem Mbx.same {w w':World} {g:Nat} {a b c:Int} {v:Value} (h:Mbx w g a b c v) (k:w'.heap[g]? =w.heap[g]?):Mbx w' g a b c v:=k.trans h
theorem Mbx.lt {w:World} {g:Nat} {a b c:Int} {v:Value} (h:Mbx w g a b c v):g<w.heap.size:=World.block_lt_of_cell? (h:=h.cs.1)
theorem Mbx.set {w:World} {g:Nat} {a b c:Int} {v:Value} (h:Mbx w g a b c v) (u:Value):Mbx (w.setCell ⟨g,3,none⟩ u) g a b c u:=by
 unfold Mbx at h⊢;simp[World.setCell,Array.getElem?_modify,h]
theorem y0g {x:Int} (h:z4e x):(Lit.int .i64 x).wf=true:=by
 obtain ⟨h1,h2⟩:=h;have e1:IntKind.i64.min= -9223372036854775808:=rfl;have e2:IntKind.i64.max=9223372036854775807:=rfl;simp[Lit.wf];omega
def z9J (r:List Int):Prop:=r.length≤255∧ ∀x∈r,z4e x
theorem q8F {m a:Nat} {s s2:List UInt8} {ok2:Bool} {acc:List (List Int)} {row:List Int} (ha:q3I 1 s=a) (hd:z1E a (q1l 1 s) (q2w 1 s true) []=(row,s2,ok2)):
  q3y (m+1) s true acc=q3y m s2 ok2 (acc++[row]):=by rw[q3y,if_pos rfl,ha,hd]
theorem z7v {m:Nat} {s:List UInt8} {acc:List (List Int)}:q3y m s false acc=(acc,s,false):=by
 cases m with
 |zero=>rfl
 |succ m=>rw[q3y];simp
theorem z8x {m:Nat} {s:List UInt8} {acc:List Int}:z1E m s false acc=(acc,s,false):=by
 cases m with
 |zero=>rfl
 |succ m=>rw[z1E];simp
theorem q7y {p:q6b} {s:List UInt8} (h:p.ok=false):q1z p s=false:=by unfold q1z;rw[h];rfl
theorem z5W {p:q6b} {s:List UInt8} (h:p.r≠[]):q1z p s=false:=by unfold q1z;rw[decide_eq_false h,Bool.and_false];rfl
theorem z5n {p:q6b} {s:List UInt8} (h:q0d p.nx p.ck p.L=false):q1z p s=false:=by unfold q1z;rw[h,Bool.and_false];rfl
theorem z5k {p:q6b} {s:List UInt8} (h:(q3H p.nx p.ck p.sd p.L).1≠s):q1z p s=false:=by unfold q1z;rw[decide_eq_false h,Bool.and_false]
theorem q9p {p:q6b} {s:List UInt8} (h1:p.ok=true) (h2:p.r=[]) (h3:q0d p.nx p.ck p.L=true) (h4:(q3H p.nx p.ck p.sd p.L).1=s):q1z p s=true:=by unfold q1z;rw[h1,h3,decide_eq_true h2,decide_eq_true h4];rfl
structure Front (r0:List UInt8) (a1 a2 a3 a4:Nat) (r1 r2 r3 r4:List UInt8) (o1 o2 o3 o4:Bool):Prop where
 A1:q3I 4 r0=a1
 R1:q1l 4 r0=r1
 O1:q2w 4 r0 true=o1
 A2:q3I 4 r1=a2
 R2:q1l 4 r1=r2
 O2:q2w 4 r1 o1=o2
 A3:q3I 8 r2=a3
 R3:q1l 8 r2=r3
 O3:q2w 8 r2 o2=o3
 A4:q3I 1 r3=a4
 R4:q1l 1 r3=r4
 O4:q2w 1 r3 o3=o4
theorem Front.made (r0:List UInt8): ∃a1 a2 a3 a4 r1 r2 r3 r4 o1 o2 o3 o4,Front r0 a1 a2 a3 a4 r1 r2 r3 r4 o1 o2 o3 o4:=⟨_,_,_,_,_,_,_,_,_,_,_,_,⟨rfl,rfl,rfl,rfl,rfl,rfl,rfl,rfl,rfl,rfl,rfl,rfl⟩⟩
theorem Front.parse {t:List UInt8} {a1 a2 a3 a4:Nat} {r1 r2 r3 r4:List UInt8} {o1 o2 o3 o4:Bool} (h:Front (t.drop 4) a1 a2 a3 a4 r1 r2 r3 r4 o1 o2 o3 o4):
  q2g t=⟨a1,a2,a3,(q3y a4 r4 o4 []).1,(q3y a4 r4 o4 []).2.1,(q3y a4 r4 o4 []).2.2⟩:=by
 obtain ⟨rfl,rfl,rfl,rfl,rfl,rfl,rfl,rfl,rfl,rfl,rfl,rfl⟩:=h;rfl
theorem Front.b {r0:List UInt8} {a1 a2 a3 a4:Nat} {r1 r2 r3 r4:List UInt8} {o1 o2 o3 o4:Bool} (h:Front r0 a1 a2 a3 a4 r1 r2 r3 r4 o1 o2 o3 o4):
  (a1:Int)<4294967296∧(a2:Int)<4294967296∧(a3:Int)<18446744073709551616∧(a4:Int)<256∧r1.length≤r0.length∧r2.length≤r0.length∧r3.length≤r0.length∧r4.length≤r0.length:=by
 obtain ⟨rfl,rfl,rfl,rfl,rfl,rfl,rfl,rfl,rfl,rfl,rfl,rfl⟩:=h;have l1:=q4R 4 r0;have l2:=q4R 4 (q1l 4 r0);have l3:=q4R 8 (q1l 4 (q1l 4 r0));have l4:=q4R 1 (q1l 8 (q1l 4 (q1l 4 r0)));refine ⟨Int.ofNat_lt.2 (q4T 4 _),Int.ofNat_lt.2 (q4T 4 _),Int.ofNat_lt.2 (q4T 8 _),Int.ofNat_lt.2 (q4T 1 _),?_,?_,?_,?_⟩<;>omega
theorem y0h (s : List UInt8) (w:World) (hl:s.length≤4611686018427387903):
  Calls Tryz.prog 222 #[.string ⟨s.toArray⟩] w (RetM w (q2y s)):=by
 have HBad1:Hid (q1q s=false→q2y s=z4N):=η38 (fun h=>by unfold q2y;rw[h];rfl);have HBad2:Hid (q3Q (q1j s)=false→q2y s=z4N):=η38 (fun h=>by unfold q2y;rw[h,Bool.and_false];rfl);have HBad3:Hid (q1z (q2g (q1j s)) s=false→q2y s=z4N):=η38 (fun h=>by unfold q2y;rw[h];split<;>rfl);have HGood:Hid (q1q s=true→q3Q (q1j s)=true→q1z (q2g (q1j s)) s=true→q2y s=⟨(q2g (q1j s)).nx,(q2g (q1j s)).ck,(q2g (q1j s)).sd,(q2g (q1j s)).L,0⟩):=η38 (fun h1 h2 h3=>by unfold q2y;rw[h1,h2,h3];rfl);have hot:(q1j s).length≤s.length:=by unfold q1j;split<;>simp
 generalize hOT:q1j s=t at*;have HOT:=η38 hOT;clear hOT;go_enter Tryz.func222,Tryz.ntmps222;go_wp2_with fail;refine (z2L s _ hl).mono ?_;rw[HOT.out];rintro e w1 ⟨rfl,hb⟩;obtain ⟨d0,d1,d2,d3⟩:=z4m hb;obtain ⟨z0,z1,z2,z3⟩:=z3Y hb;have HB:=η38 hb;clear hb;by_cases ho:q1q s=false
 ·have HS:=η38 (HBad1.out ho)
  rw[ho];go_wp2_with fail
  ((try simp only[Exit.inBlock,Exit.then]);refine bodyPost_ret (v:= .tuple #[.agg #[_,_,_,_],_]) (by rw[results_cell_tmp rfl];go_simp;exact ⟨⟨rfl,rfl,rfl,rfl⟩,rfl⟩) rfl ?_)
  exact RetM.bad ((q0B _ _).trans HB.out) _ (Nat.le_refl _) s HS.out _ _ _ _
 have ho:q1q s=true:=by simpa using ho
 have HO:=η38 ho;rw[ho];clear ho;by_cases hf:q3Q t=false
 ·have HS:=η38 (HBad2.out hf)
  have hf2:=z6m hf;clear hf;by_cases h4:t.length<4
  ·clear hf2
   go_wp2_with fail
   ((try simp only[Exit.inBlock,Exit.then]);refine bodyPost_ret (v:= .tuple #[.agg #[_,_,_,_],_]) (by rw[results_cell_tmp rfl];go_simp;exact ⟨⟨rfl,rfl,rfl,rfl⟩,rfl⟩) rfl ?_)
   exact RetM.bad ((q0B _ _).trans HB.out) _ (Nat.le_refl _) s HS.out _ _ _ _
  ·have hf3:(List.take 4 t==[105,109,97,112])=false:=by
    rw[Bool.or_eq_true,decide_eq_true_iff] at hf2;rcases hf2 with h|h
    ·omega
    ·simpa using h
   clear hf2;go_wp2_with fail
   ((try simp only[Exit.inBlock,Exit.then]);refine bodyPost_ret (v:= .tuple #[.agg #[_,_,_,_],_]) (by rw[results_cell_tmp rfl];go_simp;exact ⟨⟨rfl,rfl,rfl,rfl⟩,rfl⟩) rfl ?_)
   exact RetM.bad ((q0B _ _).trans HB.out) _ (Nat.le_refl _) s HS.out _ _ _ _
 have hf:q3Q t=true:=by simpa using hf
 have HF:=η38 hf;have ⟨h4,hf4⟩:4≤t.length∧t.take 4=[105,109,97,112]:=by
  unfold q3Q at hf;rw[Bool.and_eq_true,decide_eq_true_iff,decide_eq_true_iff] at hf;exact hf
 have HGood':=η38 (HGood.out HO.out HF.out);have HT4:Hid ((t.drop 4).length≤4611686018427387903):=η38 (by rw[List.length_drop];omega);obtain ⟨a1,a2,a3,a4,r1,r2,r3,r4,o1,o2,o3,o4,hfr⟩:=Front.made (t.drop 4);have HFr:=η38 hfr;clear hfr;have HBad3':=η38 (fun h=>HBad3.out h);have htl:t.length≤4611686018427387903:=by omega
 clear hf HGood HBad1 HBad2 HBad3 hot;have hG:(w.alloc (.cells #[.int .i64 0,.int .i64 0,.int .u64 0,.slice none 0 0] 148)).heap.size≤w1.heap.size:=HB.out.size;have HG:=η38 hG;clear hG;go_wp2_with fail;have hrd:Rdr (w1.alloc (.cells #[.string ⟨(t.drop 4).toArray⟩,.bool true] 345)) w1.heap.size (t.drop 4) true:=heap_alloc_new _ _;refine (q7p (t.drop 4) true _ 4 4 _ rfl hrd (by have:=HT4.out;omega) (by decide)).mono ?_;rw[HFr.out.A1,HFr.out.R1,HFr.out.O1];rintro e w2 ⟨rfl,hrd2,hof2⟩;have HRd2:=η38 hrd2;have HX2:=η38 (Off.ext (HB.out.trans (q0B _ _)) HG.out hof2);clear hrd hrd2 hof2;have b1:=HFr.out.b.1;have b2:=HFr.out.b.2.1;go_wp2_with fail;refine (q7p r1 o1 _ 4 4 _ rfl HRd2.out (by have:=HFr.out.b;have:=HT4.out;omega) (by decide)).mono ?_;rw[HFr.out.A2,HFr.out.R2,HFr.out.O2];rintro e w3 ⟨rfl,hrd3,hof3⟩;have HRd3:=η38 hrd3;have HX3:=η38 (Off.ext HX2.out HG.out hof3);clear hrd3 hof3
 go_wp2_with fail;refine (q7p r2 o2 _ 8 8 _ rfl HRd3.out (by have:=HFr.out.b;have:=HT4.out;omega) (by decide)).mono ?_;rw[HFr.out.A3,HFr.out.R3,HFr.out.O3];rintro e w4 ⟨rfl,hrd4,hof4⟩;have HRd4:=η38 hrd4;have HX4:=η38 (Off.ext HX3.out HG.out hof4);have hlt4:=hrd4.lt;clear hrd4 hof4;go_wp2_with fail;have hmb5:Mbx (w4.alloc (.cells #[.int .i64 a1,.int .i64 a2,.int .u64 a3,.slice none 0 0] 148)) w4.heap.size a1 a2 a3 (.slice none 0 0):=heap_alloc_new _ _;refine (q7p r3 o3 _ 1 1 _ rfl (HRd4.out.ext (q0B _ _)) (by have:=HFr.out.b;have:=HT4.out;omega) (by decide)).mono ?_;rw[HFr.out.A4,HFr.out.R4,HFr.out.O4];rintro e w5 ⟨rfl,hrd5,hof5⟩;have HMb5:=η38 (hmb5.same (hof5.block _ hmb5.lt (by omega)));have HRd5:=η38 hrd5;have HX5:=η38 (Off.ext (HX4.out.trans (q0B _ _)) HG.out hof5);have hlt5:w4.heap.size<w5.heap.size:=HMb5.out.lt;have b4:=HFr.out.b.2.2.2.1;have HRL:Hid (r4.length≤4611686018427387903):=η38 (by have:=HFr.out.b;have:=HT4.out;omega)
 clear hrd5 hof5 hmb5 HX2 HX3 HX4 HRd2 HRd3 HRd4 HOT hf4 w2 w3;go_wp2_with fail
 go_loopw [9] (fun i w'=> ∃(k:Nat) (s':List UInt8) (ok':Bool) (acc:List (List Int)) (v:Value) (vs:List Value),k≤a4∧i= .int .i64 k∧Rdr w' w1.heap.size s' ok'∧q3y (a4-k) s' ok' acc=q3y a4 r4 o4 []∧Mbx w' w4.heap.size a1 a2 a3 v∧OGr w' w5.heap.size 36 3 v vs acc∧acc.length=k∧(∀r∈acc,z9J r)∧s'.length≤4611686018427387903∧w5.heap.size≤w'.heap.size∧Ext (w.alloc (.cells #[.int .i64 0,.int .i64 0,.int .u64 0,.slice none 0 0] 148)) w') (fun i _=>a4-(intOf i).toNat)
 case atStart=>exact ⟨0,r4,o4,[],_,[],Nat.zero_le _,rfl,HRd5.out,rfl,HMb5.out,OGr.nil _ _ _ _,rfl,by simp,HRL.out,Nat.le_refl _,HX5.out⟩
 case round =>
  obtain ⟨k,s',ok',acc,v,vs,hk,rfl,hrd,hlev,hmb,hog,hal,hrows,hsl,hw5,hx⟩:=hrel;obtain ⟨ao,co,rfl⟩:=hog.own.slice;have hc1:=hrd.c1;have HRd:=η38 hrd;have HLev:=η38 hlev;have HMb:=η38 hmb;have HOg:=η38 hog;have HAl:=η38 hal;have HRows:=η38 hrows;have HSl:=η38 hsl;have HX:=η38 hx;have HW5:=η38 hw5;clear HRd5 HMb5 HX5 HRL;clear hrd hlev hmb hog hal hrows hsl hw5 hx;by_cases hkl:k<a4
  ·cases ok' with
   | false=>
    have HS:Hid (q2y s=z4N):=η38 (HBad3'.out (q7y (by rw[HFr.out.parse,←HLev.out,z7v])));clear d0 d1 d2 d3 z0 z1 z2 z3 b1 b2;obtain ⟨d0,d1,d2,d3⟩:=z4m HX.out;obtain ⟨z0,z1,z2,z3⟩:=z3Y HX.out;go_wp2_with fail
    ((try simp only[Exit.inBlock,Exit.then]);refine bodyPost_ret (v:= .tuple #[.agg #[_,_,_,_],_]) (by rw[results_cell_tmp rfl];go_simp;exact ⟨⟨rfl,rfl,rfl,rfl⟩,rfl⟩) rfl ?_)
    exact RetM.bad ((q0B _ _).trans HX.out) _ (Nat.le_refl _) s HS.out _ _ _ _
   | true =>
    go_wp2_with fail;refine (q7p s' true _ 1 1 _ rfl HRd.out (by have:=HSl.out;omega) (by decide)).mono ?_;obtain ⟨a,ha⟩: ∃x,q3I 1 s'=x:=⟨_,rfl⟩
    have ba:(a:Int)<256:=by have:=q4T 1 s';rw[ha] at this;exact Int.ofNat_lt.2 this
    have HA:=η38 ha;rw[ha];clear ha;rintro e w6 ⟨rfl,hrd6,hof6⟩;have HRd6:=η38 hrd6;have HOf6:=η38 hof6;have HTL:Hid ((q1l 1 s').length≤4611686018427387903):=η38 (by have:=q4R 1 s';have:=HSl.out;omega);have hlt6:w1.heap.size<w6.heap.size:=hrd6.lt;have HS6:=η38 hof6.size;have HW6:Hid (w5.heap.size≤w6.heap.size):=η38 (by have:=HW5.out;have:=hof6.size;omega);clear hrd6 hof6;go_wp2_with fail
    go_loopw [10,11] (fun v10 i w'=> ∃(j:Nat) (s2:List UInt8) (ok2:Bool) (row:List Int),j≤a∧i= .int .i64 j∧Rdr w' w1.heap.size s2 ok2∧z1E j s2 ok2 row=z1E a (q1l 1 s') (q2w 1 s' true) []∧Own w' w6.heap.size 3 1 v10 row.length (row.map (Value.int .i64))∧row.length+j=a∧(∀x∈row,z4e x)∧s2.length≤4611686018427387903∧Off w1.heap.size w6 w') (fun _ i _=>(intOf i).toNat)
    case atStart=>exact ⟨a,_,_,[],Nat.le_refl _,rfl,HRd6.out,rfl,Own.nil _ _ _ _,by simp,by simp,HTL.out,Off.refl _ _⟩
    case round =>
     obtain ⟨j,s2,ok2,row,hj,rfl,hrd7,hlev7,hown7,hrl,hok7,hsl7,hof7⟩:=hrel;have hc7:=hrd7.c1;have HRd7:=η38 hrd7;have HLev7:=η38 hlev7;have HOwn7:=η38 hown7;have HOk7:=η38 hok7;have HSl7:=η38 hsl7;have HOf7:=η38 hof7;clear hrd7 hlev7 hown7 hok7 hsl7 hof7
     cases j with
     | zero =>
      have HD:Hid (z1E a (q1l 1 s') (q2w 1 s' true) []=(row,s2,ok2)):=η38 (by rw[←HLev7.out];rfl);have HOf:=η38 (HOf6.out.trans HOf7.out);obtain ⟨ai,ci,rfl⟩:=HOwn7.out.slice;have HMb7:=η38 (HMb.out.same (HOf.out.block _ HMb.out.lt (by omega)));have m1:=HMb7.out.cs;obtain ⟨_,_,_,m3,_⟩:=m1;have hout:=(Off.ogr HOg.out (show w1.heap.size<w5.heap.size by omega) HOf.out).ext (q0B _ (.cells #[.slice ai row.length ci] 36));have HOut:=η38 hout;clear hout;have hk255:acc.length≤255:=by have:=HAl.out;omega
      have HOwnR:=η38 HOwn7.out;have HRdR:=η38 HRd7.out;clear HOwn7 HRd7 HLev7 HTL HOf7 HRd6 HOf6 d0 d1 d2 d3 z0 z1 z2 z3 b1 b2 hc7 hc1;have hbz:w5.heap.size≤wr.heap.size:=by have:=HW5.out;have:=HOf.out.size;omega
      go_wp2_with (at_builtin;refine q0g rfl _ _ 146 rfl w5.heap.size 36 _ 1 24 Tryz.underlying146 Tryz.infoInts rfl (by decide) _ _ _ rfl HOut.out.own _ _ _ [.slice ai row.length ci] rfl rfl (fun h=>by cases h) (Rd.lit _ _ _) (by intro u hu;rw[List.mem_singleton.1 hu];rfl) (by omega) (by omega) (by simp;omega) ?_;intro v' w8 hown' hg _;obtain ⟨ap,cp,rfl⟩:=hown'.slice;have HMb8:=η38 ((HMb7.out.same ((q0B _ _).block _ HMb7.out.lt)).same (hg.block _ (by have:=HMb7.out.lt;simp;omega) (by intro e;have:=(HOut.out.own.lt _ e.symm).1;omega)));have ⟨_,_,_,m4,m5⟩:=HMb8.out.cs)
      have hrd8:Rdr w8 w1.heap.size s2 ok2:=(HRdR.out.ext (q0B _ _)).same (hg.block _ (by have:=HRdR.out.lt;simp;omega) (by intro e;have:=(HOut.out.own.lt _ e.symm).1;omega));have hb8:=q1U ((Off.below HX.out HG.out HX.out.size HOf.out).alloc (Nat.le_trans HX.out.size HOf.out.size) (.cells #[.slice ai row.length ci] 36)) (HOut.out.own.base (by have:=HG.out;omega)) hg (Nat.le_trans HX.out.size (Nat.le_trans HOf.out.size (q0B _ _).size));have hgr:=HOut.out.push (l:=row) (by decide) (HOwnR.out.ext ((Ext.refl _).alloc _)) (show w5.heap.size≤w6.heap.size from HW6.out) (fun j g hh=>Nat.lt_of_lt_of_le (HOg.out.lt j g hh) HS6.out) hown' hg;have HRd8:=η38 hrd8;have HB8:=η38 (Below.setCell hb8 (p:=⟨w4.heap.size,3,none⟩) (by have:=HG.out;show _≤w4.heap.size;omega) (.slice ap (acc.length+1) cp));have HGr:=η38 hgr;have hs8:=hg.size;have HS8:Hid (w5.heap.size≤w8.heap.size):=η38 (by simp at hs8;omega)
      clear hrd8 hb8 hgr hown' hg hs8;go_wp2_with fail
      go_roundw
      case rel=>
       refine ⟨k+1,s2,ok2,acc++[row],.slice ap (acc.length+1) cp,vs++[.slice ai row.length ci],by omega,by go_num,HRd8.out.same (Below.heap_setCell _ _ _ _ (show w1.heap.size≠w4.heap.size by omega)),?_,HMb8.out.set _,HGr.out.setBelow (by omega) _ _,by rw[List.length_append,HAl.out];rfl,?_,HSl7.out,Nat.le_trans HS8.out (Off.set (g:=w4.heap.size) w8 3 _).size,HB8.out⟩
       ·rw[←HLev.out]
        have e:a4-k=(a4-(k+1))+1:=by omega
        rw[e,q8F HA.out HD.out]
       ·intro r hr
        rw[List.mem_append,List.mem_singleton] at hr;rcases hr with hr|rfl
        ·exact HRows.out r hr
        ·exact ⟨by omega,HOk7.out⟩
      case measure=>simp[intOf];omega
     | succ j =>
      cases ok2 with
      | false =>
        have HD:Hid (z1E a (q1l 1 s') (q2w 1 s' true) []=(row,s2,false)):=η38 (by rw[←HLev7.out];exact z8x);have HOf:=η38 (HOf6.out.trans HOf7.out);obtain ⟨ai,ci,rfl⟩:=HOwn7.out.slice;have HMb7:=η38 (HMb.out.same (HOf.out.block _ HMb.out.lt (by omega)));have m1:=HMb7.out.cs;obtain ⟨_,_,_,m3,_⟩:=m1;have hout:=(Off.ogr HOg.out (show w1.heap.size<w5.heap.size by omega) HOf.out).ext (q0B _ (.cells #[.slice ai row.length ci] 36));have HOut:=η38 hout;clear hout;have hk255:acc.length≤255:=by have:=HAl.out;omega
        have HOwnR:=η38 HOwn7.out;have HRdR:=η38 HRd7.out;clear HOwn7 HRd7 HLev7 HTL HOf7 HRd6 HOf6 d0 d1 d2 d3 z0 z1 z2 z3 b1 b2 hc1;have hj0:(0:Int)<(j:Int)+1:=by omega
        have hbz:w5.heap.size≤wr.heap.size:=by have:=HW5.out;have:=HOf.out.size;omega
        go_wp2_with (at_builtin;refine q0g rfl _ _ 146 rfl w5.heap.size 36 _ 1 24 Tryz.underlying146 Tryz.infoInts rfl (by decide) _ _ _ rfl HOut.out.own _ _ _ [.slice ai row.length ci] rfl rfl (fun h=>by cases h) (Rd.lit _ _ _) (by intro u hu;rw[List.mem_singleton.1 hu];rfl) (by omega) (by omega) (by simp;omega) ?_;intro v' w8 hown' hg _;obtain ⟨ap,cp,rfl⟩:=hown'.slice;have HMb8:=η38 ((HMb7.out.same ((q0B _ _).block _ HMb7.out.lt)).same (hg.block _ (by have:=HMb7.out.lt;simp;omega) (by intro e;have:=(HOut.out.own.lt _ e.symm).1;omega)));have ⟨_,_,_,m4,m5⟩:=HMb8.out.cs)
        have hrd8:Rdr w8 w1.heap.size s2 false:=(HRdR.out.ext (q0B _ _)).same (hg.block _ (by have:=HRdR.out.lt;simp;omega) (by intro e;have:=(HOut.out.own.lt _ e.symm).1;omega));have hb8:=q1U ((Off.below HX.out HG.out HX.out.size HOf.out).alloc (Nat.le_trans HX.out.size HOf.out.size) (.cells #[.slice ai row.length ci] 36)) (HOut.out.own.base (by have:=HG.out;omega)) hg (Nat.le_trans HX.out.size (Nat.le_trans HOf.out.size (q0B _ _).size));have hgr:=HOut.out.push (l:=row) (by decide) (HOwnR.out.ext ((Ext.refl _).alloc _)) (show w5.heap.size≤w6.heap.size from HW6.out) (fun j g hh=>Nat.lt_of_lt_of_le (HOg.out.lt j g hh) HS6.out) hown' hg;have HRd8:=η38 hrd8;have HB8:=η38 (Below.setCell hb8 (p:=⟨w4.heap.size,3,none⟩) (by have:=HG.out;show _≤w4.heap.size;omega) (.slice ap (acc.length+1) cp));have HGr:=η38 hgr;have hs8:=hg.size;have HS8:Hid (w5.heap.size≤w8.heap.size):=η38 (by simp at hs8;omega)
        clear hrd8 hb8 hgr hown' hg hs8;go_wp2_with fail
        go_roundw
        case rel=>
         refine ⟨k+1,s2,false,acc++[row],.slice ap (acc.length+1) cp,vs++[.slice ai row.length ci],by omega,by go_num,HRd8.out.same (Below.heap_setCell _ _ _ _ (show w1.heap.size≠w4.heap.size by omega)),?_,HMb8.out.set _,HGr.out.setBelow (by omega) _ _,by rw[List.length_append,HAl.out];rfl,?_,HSl7.out,Nat.le_trans HS8.out (Off.set (g:=w4.heap.size) w8 3 _).size,HB8.out⟩
         ·rw[←HLev.out]
          have e:a4-k=(a4-(k+1))+1:=by omega
          rw[e,q8F HA.out HD.out]
         ·intro r hr
          rw[List.mem_append,List.mem_singleton] at hr;rcases hr with hr|rfl
          ·exact HRows.out r hr
          ·exact ⟨by omega,HOk7.out⟩
        case measure=>simp[intOf];omega
      | true =>
       obtain ⟨ai,ci,rfl⟩:=HOwn7.out.slice;have hrow:row.length≤255:=by omega
       have hj0:(0:Int)<(j:Int)+1:=by omega
       clear HRd6 HTL HS6 HW6 HMb HOg HRd HRows d0 d1 d2 d3 z0 z1 z2 z3 b1 b2 hc1;go_wp2_with fail;refine (q7p s2 true _ 4 4 _ rfl HRd7.out (by have:=HSl7.out;omega) (by decide)).mono ?_;obtain ⟨x,hxx⟩: ∃x,q3I 4 s2=x:=⟨_,rfl⟩
       have bx:(x:Int)<4294967296:=by have:=q4T 4 s2;rw[hxx] at this;exact Int.ofNat_lt.2 this
       have HXX:=η38 hxx;rw[hxx];clear hxx;rintro e w8 ⟨rfl,hrd8,hof8⟩;have HRd8:=η38 hrd8;have HOf8:=η38 (HOf7.out.trans hof8);have HOwnA:=η38 ((Off.own HOwn7.out hlt6 hof8).ext (q0B _ (.cells #[.int .i64 x] 3)));have hs8:=HOf8.out.size;clear hrd8 hof8 HRd7 HOwn7 hc7
       go_wp2_with (at_builtin;refine q0g rfl _ _ 36 rfl w6.heap.size 3 _ 1 8 Tryz.underlying36 Tryz.infoInt rfl (by decide) _ _ _ rfl HOwnA.out _ _ _ [.int .i64 x] rfl rfl (fun h=>by cases h) (Rd.lit _ _ _) (by intro u hu;rw[List.mem_singleton.1 hu];rfl) (by omega) (by omega) (Nat.le_trans hs8 (q0B _ _).size) ?_;intro v' w9 hown9 hg9 _)
       have hrd9:Rdr w9 w1.heap.size (q1l 4 s2) (q2w 4 s2 true):=(HRd8.out.ext (q0B _ _)).same (hg9.block _ (by have:=HRd8.out.lt;simp;omega) (by intro e;have:=(HOwnA.out.lt _ e.symm).1;omega));have hof9:=Off.grown (HOf8.out.trans (Off.of_ext (q0B _ _))) HOwnA.out hg9 (Nat.le_refl _);have hown9':Own w9 w6.heap.size 3 1 v' (row++[(x:Int)]).length ((row++[(x:Int)]).map (Value.int .i64)):=by rw[List.length_append,List.map_append];exact hown9
       have HRd9:=η38 hrd9;have HOf9:=η38 hof9;have HOwn9:=η38 hown9';clear hrd9 hof9 hown9' hown9 hg9 hs8;go_wp2_with fail
       go_roundw
       case rel=>
        refine ⟨j,q1l 4 s2,q2w 4 s2 true,row++[(x:Int)],by omega,by go_num,HRd9.out,?_,HOwn9.out,by simp;omega,?_,by have:=q4R 4 s2;have:=HSl7.out;omega,HOf9.out⟩
        ·rw[←HLev7.out,z1E,if_pos rfl,HXX.out]
        ·intro y hy
         rw[List.mem_append,List.mem_singleton] at hy;rcases hy with hy|rfl
         ·exact HOk7.out y hy
         ·exact ⟨by omega,bx⟩
       case measure=>simp[intOf]
  ·have hk':k=a4:=by omega
   have HE:Hid (q2g t=⟨a1,a2,a3,acc,s',ok'⟩):=η38 (by rw[HFr.out.parse,←HLev.out,hk',Nat.sub_self];rfl);clear hk';clear d0 d1 d2 d3 z0 z1 z2 z3 b1 b2
   cases ok' with
   | false=>
    have HS:Hid (q2y s=z4N):=η38 (HBad3'.out (q7y (by rw[HE.out])));obtain ⟨d0,d1,d2,d3⟩:=z4m HX.out;obtain ⟨z0,z1,z2,z3⟩:=z3Y HX.out;go_wp2_with fail
    ((try simp only[Exit.inBlock,Exit.then]);refine bodyPost_ret (v:= .tuple #[.agg #[_,_,_,_],_]) (by rw[results_cell_tmp rfl];go_simp;exact ⟨⟨rfl,rfl,rfl,rfl⟩,rfl⟩) rfl ?_)
    exact RetM.bad ((q0B _ _).trans HX.out) _ (Nat.le_refl _) s HS.out _ _ _ _
   | true =>
    have hc0:=HRd.out.c0;obtain ⟨m0,m1,m2,m3,_⟩:=HMb.out.cs;by_cases hs:s'=[]
    ·subst hs
     obtain ⟨ao',co',he,hgr⟩:=HOg.out.grid
     cases he;have hsum:acc.flatten.length≤17592186044416:=by have:=q7u 255 acc fun r hr=>(HRows.out r hr).1;have:=HAl.out;omega
     have hoki: ∀x∈acc.flatten,z4e x:=fun x hx=>by obtain ⟨r,h1,h2⟩:=List.mem_flatten.1 hx;exact (HRows.out r h1).2 x h2
     have HGr:=η38 hgr;have HSum:=η38 hsum;have HOki:=η38 hoki;have B3:=η38 HFr.out.b.2.2.1;clear HLev HAl hgr hsum hoki;go_wp2_with fail;refine (q9G a1 a2 a3 _ _ _ acc _ HGr.out HSum.out (fun x hx=>y0g (HOki.out x hx))).mono ?_;rintro e w8 ⟨rfl,hb8⟩;have HX8:=η38 (HX.out.trans hb8);have HG8:=η38 (HGr.out.ext hb8);have HB8:=η38 hb8;have m0':=q0A hb8 m0;have m1':=q0A hb8 m1;have m2':=q0A hb8 m2;have m3':=q0A hb8 m3;clear hb8 m0 m1 m2 m3 hc0 hc1;by_cases hv:q0d a1 a2 acc=false
     ·have HS:Hid (q2y s=z4N):=η38 (HBad3'.out (z5n (by rw[HE.out];exact hv)))
      rw[hv];obtain ⟨d0,d1,d2,d3⟩:=z4m HX8.out;obtain ⟨z0,z1,z2,z3⟩:=z3Y HX8.out;go_wp2_with fail
      ((try simp only[Exit.inBlock,Exit.then]);refine bodyPost_ret (v:= .tuple #[.agg #[_,_,_,_],_]) (by rw[results_cell_tmp rfl];go_simp;exact ⟨⟨rfl,rfl,rfl,rfl⟩,rfl⟩) rfl ?_)
      exact RetM.bad ((q0B _ _).trans HX8.out) _ (Nat.le_refl _) s HS.out _ _ _ _
     have hv:q0d a1 a2 acc=true:=by simpa using hv
     have HV:=η38 hv;rw[hv];clear hv;go_wp2_with fail;refine (y0z a1 a2 a3 _ _ _ acc _ HG8.out HSum.out (fun x hx=>y0g (HOki.out x hx)) (by omega) B3.out).mono ?_;obtain ⟨P,hP⟩: ∃P,q3H a1 a2 a3 acc=(P,0):=⟨_,by unfold q3H;rw[HV.out];rfl⟩
     have HP:=η38 hP;rw[hP];clear hP;rintro e w9 ⟨rfl,hb9⟩;have HX9:=η38 (HX8.out.trans hb9);have HB9:=η38 (HB8.out.trans hb9);have n0:=q0A hb9 m0';have n1:=q0A hb9 m1';have n2:=q0A hb9 m2';have n3:=q0A hb9 m3';obtain ⟨d0,d1,d2,d3⟩:=z4m HX9.out;obtain ⟨z0,z1,z2,z3⟩:=z3Y HX9.out;clear hb9 m0' m1' m2' m3' HG8 HX8;by_cases hps:P=s
     ·have HS:Hid (q2y s=⟨a1,a2,a3,acc,0⟩):=η38 (by rw[HGood'.out (q9p (by rw[HE.out]) (by rw[HE.out]) (by rw[HE.out];exact HV.out) (by rw[HE.out];show (q3H a1 a2 a3 acc).1=s;rw[HP.out];exact hps)),HE.out])
      subst hps;go_wp2_with fail
      ((try simp only[Exit.inBlock,Exit.then]);refine bodyPost_ret (v:= .tuple #[.agg #[_,_,_,_],_]) (by rw[results_cell_tmp rfl];go_simp;exact ⟨⟨rfl,rfl,rfl,rfl⟩,rfl⟩) rfl ?_)
      have hw:w.heap.size<w5.heap.size:=by have:=HG.out;simp at this;omega
      rw[HS.out];exact ⟨.slice ao acc.length co,vs,rfl,((((HOg.out.ext HB9.out).setBelow hw _ _).setBelow hw _ _).setBelow hw _ _|>.setBelow hw _ _).base (by omega),z3G ((q0B _ _).trans HX9.out) _ (Nat.le_refl _) _ _ _ _⟩
     ·have HS:Hid (q2y s=z4N):=η38 (HBad3'.out (z5k (by rw[HE.out];show (q3H a1 a2 a3 acc).1≠s;rw[HP.out];exact hps)))
      have hps':(P==s)=false:=by simpa using hps
      go_wp2_with fail
      ((try simp only[Exit.inBlock,Exit.then]);refine bodyPost_ret (v:= .tuple #[.agg #[_,_,_,_],_]) (by rw[results_cell_tmp rfl];go_simp;exact ⟨⟨rfl,rfl,rfl,rfl⟩,rfl⟩) rfl ?_)
      exact RetM.bad ((q0B _ _).trans HX9.out) _ (Nat.le_refl _) s HS.out _ _ _ _
    ·have HS:Hid (q2y s=z4N):=η38 (HBad3'.out (z5W (by rw[HE.out];exact hs)))
     have hs':(s'==[])=false:=by simpa using hs
     obtain ⟨d0,d1,d2,d3⟩:=z4m HX.out;obtain ⟨z0,z1,z2,z3⟩:=z3Y HX.out;go_wp2_with fail
     ((try simp only[Exit.inBlock,Exit.then]);refine bodyPost_ret (v:= .tuple #[.agg #[_,_,_,_],_]) (by rw[results_cell_tmp rfl];go_simp;exact ⟨⟨rfl,rfl,rfl,rfl⟩,rfl⟩) rfl ?_)
     exact RetM.bad ((q0B _ _).trans HX.out) _ (Nat.le_refl _) s HS.out _ _ _ _
end
section
open Go.RowKit
end
section
open Go.RowKit
end
section
theorem q5i (k x:Nat) (r:List UInt8) (h:x<256^k):q3I k (be k x++r)=x∧q1l k (be k x++r)=r∧ ∀ok,q2w k (be k x++r) ok=ok:=by
 have hl:¬(be k x++r).length<k:=by simp[q0I]
 refine ⟨?_,?_,fun ok=>?_⟩
 ·unfold q3I
  rw[if_neg hl,List.take_left' (q0I k x),q4x,Nat.mod_eq_of_lt h]
 ·unfold q1l
  rw[if_neg hl,List.drop_left' (q0I k x)]
 ·unfold q2w
  rw[if_neg hl]
def b4 (x:Int):List UInt8:=be 4 x.toNat
theorem z2y : ∀(l:List Int) (r:List UInt8) (acc:List Int),(∀x∈l,z4e x)→z1E l.length ((l.map b4).flatten++r) true acc=(acc++l,r,true)
 |[],r,acc,_=>by simp[z1E]
 | x::l,r,acc,h=>by
  have hx:=h x (by simp);obtain ⟨h1,h2⟩:=hx;have ht:=q5i 4 x.toNat ((l.map b4).flatten++r) (by omega);have e:((x::l).map b4).flatten++r=be 4 x.toNat++((l.map b4).flatten++r):=by simp[b4]
  rw[List.length_cons,z1E,if_pos rfl,e,ht.1,ht.2.1,ht.2.2,z2y l r _ fun y hy=>h y (by simp[hy]),List.append_assoc,Int.toNat_of_nonneg h1]
  rfl
theorem q9a : ∀(T:List (List Int)) (r:List UInt8) (acc:List (List Int)),(∀l∈T,z9J l)→q3y T.length ((T.map q0o).flatten++r) true acc=(acc++T,r,true)
 |[],r,acc,_=>by simp[q3y]
 | l ::T,r,acc,h=>by
  have hl:=h l (by simp);have ht:=q5i 1 l.length ((l.map b4).flatten++((T.map q0o).flatten++r)) (by have:=hl.1;omega);have e:((l::T).map q0o).flatten++r=be 1 l.length++((l.map b4).flatten++((T.map q0o).flatten++r)):=by
   simp[q0o,List.append_assoc];rfl
  rw[List.length_cons,q3y,if_pos rfl,e,ht.1,ht.2.1,ht.2.2,z2y l _ [] hl.2];simp only[List.nil_append];rw[q9a T r _ fun y hy=>h y (by simp[hy]),List.append_assoc]
  rfl
theorem z0L (L:List (List Int)):(q0p L).length≤L.length:=by rw[q3L];exact q5N _ _
theorem z1O (L:List (List Int)):q0p (q0p L)=q0p L:=by
 apply z5q;rcases Nat.eq_zero_or_pos (q0p L).length with h|h
 ·exact .inl (List.eq_nil_of_length_eq_zero h)
 ·exact .inr (z3d L _ (by omega))
theorem q6g {L:List (List Int)} (h:q1c L=true):q1c (q0p L)=true:=by
 have hp:=q5y h;have hf:=q1h L;exact q9s _ (Nat.le_trans (z0L L) hp.1) (by rw[hf];exact hp.2.1) (by rw[hf];exact hp.2.2.1) (by rw[hf];exact hp.2.2.2)
theorem q4p {nx ck:Int} {L:List (List Int)} (h:q0d nx ck L=true):q0d nx ck (q0p L)=true:=by
 have hp:=q2U h;rw[q7k hp.1 (q6g hp.2.1),q1h,List.all_eq_true];intro x hx
 simpa using hp.2.2 x hx
theorem z0d {nx ck sd:Int} {L:List (List Int)} (h:q0d nx ck L=true):q3H nx ck sd (q0p L)=q3H nx ck sd L:=by
 unfold q3H q1o;rw[if_pos (q4p h),if_pos h,z1O]
theorem z5Z {nx ck:Int} {L:List (List Int)} (h:q0d nx ck L=true):(q0p L).length≤5∧ ∀l∈q0p L,z9J l:=by
 have hp:=q2U h;have hv:=q5y (q6g hp.2.1);refine ⟨hv.1,fun l hl=>⟨?_,fun x hx=>?_⟩⟩
 ·have:l.length≤(q0p L).flatten.length:=(List.sublist_flatten_of_mem hl).length_le
  omega
 ·have hm:x∈(q0p L).flatten:=List.mem_flatten.2 ⟨l,hl,hx⟩
  have h0:=hv.2.2.1 x hm;rw[q1h] at hm;have h1:=hp.2.2 x hm;exact ⟨h0,by omega⟩
theorem q8D {nx ck sd:Int} {L:List (List Int)} (h:q0d nx ck L=true):q3H nx ck sd L=(q1M (q1o nx ck sd L),0):=by unfold q3H;rw[if_pos h]
theorem q7w (nx ck sd:Int) (L:List (List Int)) (r:List UInt8):
  q1o nx ck sd L++r=[105,109,97,112]++(be 4 nx.toNat++(be 4 ck.toNat++(be 8 sd.toNat++(be 1 (q0p L).length++(((q0p L).map q0o).flatten++r))))):=by
 simp[q1o,q2c,List.append_assoc]
structure z4c (u:List UInt8) (a1 a2 a3 a4:Nat) (r4:List UInt8):Prop where
 f:u=[105,109,97,112]++(be 4 a1++(be 4 a2++(be 8 a3++(be 1 a4++r4))))
 b1:a1<256^4
 b2:a2<256^4
 b3:a3<256^8
 b4:a4<256^1
theorem z0l {u:List UInt8} {a1 a2 a3 a4:Nat} {r4:List UInt8} (h:z4c u a1 a2 a3 a4 r4):
  q2g u=⟨a1,a2,a3,(q3y a4 r4 true []).1,(q3y a4 r4 true []).2.1,(q3y a4 r4 true []).2.2⟩:=by
 obtain ⟨rfl,b1,b2,b3,b4⟩:=h;unfold q2g;have t1:=q5i 4 a1 (be 4 a2++(be 8 a3++(be 1 a4++r4))) b1;have t2:=q5i 4 a2 (be 8 a3++(be 1 a4++r4)) b2;have t3:=q5i 8 a3 (be 1 a4++r4) b3;have t4:=q5i 1 a4 r4 b4;have e:([105,109,97,112]++(be 4 a1++(be 4 a2++(be 8 a3++(be 1 a4++r4))))).drop 4=be 4 a1++(be 4 a2++(be 8 a3++(be 1 a4++r4))):=rfl;simp only[e,t1.1,t1.2.1,t1.2.2,t2.1,t2.2.1,t2.2.2,t3.1,t3.2.1,t3.2.2,t4.1,t4.2.1,t4.2.2]
theorem z4G {nx ck sd:Int} {L:List (List Int)} (h:q0d nx ck L=true) (h1:sd<18446744073709551616) (r:List UInt8):
  z4c (q1o nx ck sd L++r) nx.toNat ck.toNat sd.toNat (q0p L).length (((q0p L).map q0o).flatten++r):=by
 have hp:=q2U h;have hr:=z5Z h;exact ⟨q7w _ _ _ _ _,by omega,by omega,by omega,by omega⟩
theorem z3a {nx ck sd:Int} {L:List (List Int)} (h:q0d nx ck L=true) (h0:0≤sd) (h1:sd<18446744073709551616) (r:List UInt8):
  q2g (q1o nx ck sd L++r)=⟨nx,ck,sd,q0p L,r,true⟩:=by
 have hp:=q2U h;have hr:=z5Z h;rw[z0l (z4G h h1 r),q9a _ _ _ hr.2];simp only[List.nil_append,Int.toNat_of_nonneg hp.1.1,Int.toNat_of_nonneg hp.1.2.2.1,Int.toNat_of_nonneg h0]
theorem z5E (l:List UInt8):q1q (q1M l)=true∧q1j (q1M l)=l:=by
 have hl:=q1D l;have ht:(q1M l).take ((q1M l).length-4)=l:=by
  rw[hl,Nat.add_sub_cancel];unfold q1M;exact List.take_left
 have hb:q1q (q1M l)=true:=by
  unfold q1q;rw[ht,decide_eq_true (show 4≤(q1M l).length by omega),decide_eq_true rfl];rfl
 exact ⟨hb,by unfold q1j;rw[if_pos hb,ht]⟩
theorem z6q {nx ck sd:Int} {L:List (List Int)} (h:q0d nx ck L=true) (h0:0≤sd) (h1:sd<18446744073709551616):
  q2y (q1M (q1o nx ck sd L))=⟨nx,ck,sd,q0p L,0⟩:=by
 obtain ⟨o1,o2⟩:=z5E (q1o nx ck sd L);have hp:=z3a h h0 h1 [];rw[List.append_nil] at hp;have hf:q3Q (q1o nx ck sd L)=true:=by
  have e:=q7w nx ck sd L [];rw[List.append_nil] at e;unfold q3Q;rw[e,Bool.and_eq_true];exact ⟨by simp,by simp⟩
 unfold q2y;rw[o1,o2,hf,if_pos (by rfl),hp];have hk:q1z ⟨nx,ck,sd,q0p L,[],true⟩ (q1M (q1o nx ck sd L))=true:=
  q9p rfl rfl (q4p h) (by show (q3H nx ck sd (q0p L)).1=_;rw[z0d h,q8D h])
 rw[hk,if_pos rfl]
end
section
end
end Go.Proofs.YthdekbmdkpcooaaGreatDoor
