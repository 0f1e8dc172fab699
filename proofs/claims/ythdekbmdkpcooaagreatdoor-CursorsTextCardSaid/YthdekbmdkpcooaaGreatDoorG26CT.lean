/- Walks. -/
import Derived.Test.YthdekbmdkpcooaaGreatDoorG25CT
import Derived.Test.YthdekbmdkpcooaaGreatDoorG4CT
import Derived.Test.YthdekbmdkpcooaaGreatDoorG20CT
set_option linter.unusedVariables false
set_option linter.unusedSimpArgs false
set_option maxRecDepth 100000
set_option maxHeartbeats 6400000
namespace Go.Proofs.YthdekbmdkpcooaaGreatDoor
theorem η26 {p:Prop} (h:p):Go.RowKit.Hid p:=Lib.hid h
section
open Go.RowKit
def y0S (c:Int):Prop:=c=0∨c=4∨c=2
instance (c :Int):Decidable (y0S c):=by unfold y0S;infer_instance
def q0h (σ:DM) (nm:List UInt8):List UInt8×Int×DM:=if (q1W σ nm).2≠0 then ([],(q1W σ nm).2,σ) else q1b σ nm 0 (q1W σ nm).1
def q2E (c:Int):Int:=if c=1∨c=61 then c else 90
theorem q9B {L:List FM} {f:FM} (h:f∈L):f.da.length≤q0P L:=by
 induction L with
 |nil=>cases h
 | cons a r ih=>
  unfold q0P q5d at*;rw[List.map_cons,List.sum_cons];rcases List.mem_cons.1 h with rfl|h
  ·omega
  ·have:=ih h;omega
theorem z0m {σ:DM} (h:okD σ) (nm:List UInt8):0≤(q1W σ nm).1∧(q1W σ nm).1≤1048576:=by
 have h1:=h.used;have h2:=h.cap1;unfold q1W
 split
 ·exact ⟨Int.le_refl _,by show (0:Int)≤_;decide⟩
 ·split
  ·exact ⟨Int.le_refl _,by show (0:Int)≤_;decide⟩
  ·rename_i f hf
   have:=q9B (q0O hf).1;simp only;omega
section
variable {w :World} {g:Nat} {F:Nat→Prop} {σ:DM}
theorem z2O (h:Dk w g F σ) (nm:List UInt8) (hl:nm.length≤9223372036854775807):
  Calls Tryz.prog 207 #[.pointer (some ⟨g,0,none⟩),.string ⟨nm.toArray⟩] w fun e w'=>e= .returned (.tuple #[.string ⟨(q0h σ nm).1.toArray⟩,.int .i64 (q0h σ nm).2.1])∧DkS w g F (q0h σ nm).2.2 w':=by
 have HS:=η26 (q6q h nm hl);have hb: -9223372036854775808≤(q1W σ nm).1∧(q1W σ nm).1≤9223372036854775807:=by have:=z0m h.1 nm;omega
 have HR:=η26 (z2g h nm 0 (q1W σ nm).1 hl (by decide) (by decide) hb.1 hb.2);have HM:Hid (q0h σ nm=if (q1W σ nm).2≠0 then ([],(q1W σ nm).2,σ) else q1b σ nm 0 (q1W σ nm).1):=η26 rfl;have HD0:=η26 (DkS.refl h);clear h hb;obtain ⟨r1,h1⟩: ∃r,q1W σ nm=r:=⟨_,rfl⟩
 rw[h1] at HS HR HM;obtain ⟨z,c⟩:=r1;obtain ⟨r2,h2⟩: ∃r,q1b σ nm 0 z=r:=⟨_,rfl⟩
 simp only at HR HM;rw[h2] at HR HM;obtain ⟨t,c2,σ2⟩:=r2;clear h1 h2;by_cases e1:c=0
 ·subst e1
  have HE:Hid (q0h σ nm=(t,c2,σ2)):=η26 (by rw[HM.out,if_neg (fun h=>h rfl)]);rw[HE.out];clear HM;go_enter Tryz.func207,Tryz.ntmps207;go_wp2_with fail;refine HS.out.mono ?_;rintro e w' ⟨rfl,rfl⟩;go_wp2_with fail;refine HR.out.mono ?_;rintro e w1 ⟨rfl,hd1⟩;have HD1:=η26 hd1;clear hd1;go_wp2_with fail;go_ret2;exact ⟨rfl,HD1.out⟩
 ·have HE:Hid (q0h σ nm=([],c,σ)):=η26 (by rw[HM.out,if_pos e1])
  rw[HE.out];have hb:(c !=0)=true:=by simpa using e1
  clear HM e1;go_enter Tryz.func207,Tryz.ntmps207;go_wp2_with fail;refine HS.out.mono ?_;rintro e w' ⟨rfl,rfl⟩;go_wp2_with fail;go_ret2;exact ⟨rfl,HD0.out⟩
theorem z3A (c:Int) (w:World):Calls Tryz.prog 209 #[.int .i64 c] w fun e w'=>e= .returned (.int .i64 (q2E c))∧w=w':=by
 by_cases h1:c=1
 ·subst h1
  go_enter Tryz.func209,Tryz.ntmps209;go_wp2_with fail;go_ret;exact ⟨rfl,rfl⟩
 ·by_cases h2:c=61
  ·subst h2
   go_enter Tryz.func209,Tryz.ntmps209;go_wp2_with fail;go_ret;exact ⟨rfl,rfl⟩
  ·have HE:Hid (q2E c=90):=η26 (by unfold q2E;rw[if_neg (by omega)])
   have b1:(c==1)=false:=by simpa using h1
   have b2:(c==61)=false:=by simpa using h2
   rw[HE.out];clear h1 h2;go_enter Tryz.func209,Tryz.ntmps209;go_wp2_with fail;go_ret;exact ⟨rfl,rfl⟩
end
end
section
open Go.RowKit
section
variable {w :World} {g:Nat} {F:Nat→Prop} {σ:DM}
theorem DkS.from {w wa w':World} {g:Nat} {F:Nat→Prop} {σ τ:DM} (h:Dk w g F σ) (hx:Ext w wa) (k:DkS wa g F τ w'):DkS w g F τ w':=
 ((DkS.refl h).ext hx).trans ⟨k.dk.mono (fun i hi=>hi.elim (fun h=> .inl (.inl h)) .inr) (fun i hi=>by
  have hlt: ∀i,Gr F wa w' i→i<w'.heap.size:=by obtain ⟨_,_,_,_,_,_,h⟩:=k.dk;exact h
  rcases hi with (h1|h1)|h1
  ·exact hlt i (.inl h1)
  ·have:=k.off.size;omega
  ·exact h1.2),k.off.mono fun i _ h=> .inl h⟩
theorem q7V (c:UInt8) (n:Int):(q0G c n).length≤9223372036854775807:=by
 by_cases h:0≤n∧n≤999999
 ·rw[q0X h,List.length_cons,q0f];decide
 ·rw[q6U h];decide
end
end
section
open Go.RowKit
section
variable {w :World} {g:Nat} {F:Nat→Prop} {σ:DM}
end
end
section
open Go.RowKit
def InT (t:Nat) (v mv:Value) (i:Nat):Prop:=i=t∨v.ownBlock=some i∨mv= .map (some i)
structure TbI (w:World) (t g:Nat) (n:Int) (L:List En) (v:Value) (p s:Nat) (mv:Value) (D:DataW Unit):Prop where
 blk:Blk w t 299 #[.pointer (some ⟨g,0,none⟩),.int .i64 n,.int .i64 (L.length:Int),v,.int .i64 (p:Int),.int .i64 (s:Int),mv]
 mids:w.ownsRow 0 333 4 v (q2Y L).length (mcs (q2Y L))
 fil:FilK w p s mv D
structure okT (L:List En):Prop where
 sort:q0q L
 ok: ∀x∈L,q3J x=true
 len:L.length≤50000
def Tb (w:World) (t g:Nat) (n:Int) (L:List En) (may:Int→Bool) (T:Nat→Prop):Prop:=
 ∃v p s mv D,TbI w t g n L v p s mv D∧may=z5x p s D∧(∀x∈L,may x.1=true)∧okT L∧(∀i,InT t v mv i→T i)∧ ∀i,T i→i<w.heap.size
section
variable {w w':World} {t g:Nat} {n:Int} {L:List En} {v:Value} {p s:Nat} {mv:Value} {D:DataW Unit} {may:Int→Bool} {T T' F:Nat→Prop} {σ:DM}
theorem FilK.same (h:FilK w p s mv D) (k: ∀i,mv= .map (some i)→w'.heap[i]? =w.heap[i]?):FilK w' p s mv D:=by
 obtain ⟨h0,h1|⟨h1,h2,h3,h4,m,n,h5,h6⟩⟩:=h
 ·exact ⟨h0,.inl h1⟩
 ·exact ⟨h0,.inr ⟨h1,h2,h3,h4,m,n,h5,q2C h6 (k m h5)⟩⟩
theorem FilK.lt (h:FilK w p s mv D) {i:Nat} (hi:mv= .map (some i)):i<w.heap.size:=by
 obtain ⟨h0,⟨h1,h2⟩|⟨h1,h2,h3,h4,m,n,h5,h6⟩⟩:=h
 ·rw[h2] at hi;cases hi
 ·rw[h5] at hi;cases hi;exact h6.lt
theorem TbI.same (h:TbI w t g n L v p s mv D) (k: ∀i,InT t v mv i→w'.heap[i]? =w.heap[i]?):TbI w' t g n L v p s mv D:=
 ⟨h.blk.same (k t (.inl rfl)),q1O h.mids fun i hi=>k i (.inr (.inl hi)),h.fil.same fun i hi=>k i (.inr (.inr hi))⟩
theorem Tb.same (h:Tb w t g n L may T) (hs:w.heap.size≤w'.heap.size) (k: ∀i,T i→w'.heap[i]? =w.heap[i]?):Tb w' t g n L may T:=by
 obtain ⟨v,p,s,mv,D,h1,h2,h3,h4,h5,h6⟩:=h;exact ⟨v,p,s,mv,D,h1.same fun i hi=>k i (h5 i hi),h2,h3,h4,h5,fun i hi=>Nat.lt_of_lt_of_le (h6 i hi) hs⟩
theorem Tb.lt (h:Tb w t g n L may T): ∀i,T i→i<w.heap.size:=by
 obtain ⟨v,p,s,mv,D,h1,h2,h3,h4,h5,h6⟩:=h;exact h6
theorem Tb.okL (h:Tb w t g n L may T):okT L:=by
 obtain ⟨v,p,s,mv,D,h1,h2,h3,h4,h5,h6⟩:=h;exact h4
theorem Tb.thru (h:Tb w t g n L may T): ∀x∈L,may x.1=true:=by
 obtain ⟨v,p,s,mv,D,h1,h2,h3,h4,h5,h6⟩:=h;exact h3
theorem Tb.ext (h:Tb w t g n L may T) (k:Ext w w'):Tb w' t g n L may T:=h.same k.size fun i hi=>k.block i (h.lt i hi)
theorem Tb.off (h:Tb w t g n L may T) (k:OffS F w w') (hd: ∀i,T i→¬F i):Tb w' t g n L may T:=h.same k.size fun i hi=>k.block i (h.lt i hi) (hd i hi)
theorem Tb.mono (h:Tb w t g n L may T) (k: ∀i,T i→T' i) (hl: ∀i,T' i→i<w.heap.size):Tb w t g n L may T':=by
 obtain ⟨v,p,s,mv,D,h1,h2,h3,h4,h5,h6⟩:=h;exact ⟨v,p,s,mv,D,h1,h2,h3,h4,fun i hi=>k i (h5 i hi),hl⟩
end
def q5X (σ:DM) (n:Int):Option (List En)×Int×DM:=
 if (q0h σ (q0G 116 n)).2.1≠0 then (none,q2E (q0h σ (q0G 116 n)).2.1,(q0h σ (q0G 116 n)).2.2)
 else match q8G (q0h σ (q0G 116 n)).1 with
 |none=>(none,90,(q0h σ (q0G 116 n)).2.2)
 | some L=>if (q0h (q0h σ (q0G 116 n)).2.2 (q0G 98 n)).2.1=61 then (none,61,(q0h (q0h σ (q0G 116 n)).2.2 (q0G 98 n)).2.2)
  else (some L,0,(q0h (q0h σ (q0G 116 n)).2.2 (q0G 98 n)).2.2)
def y1Z (w:World) (g:Nat) (F:Nat→Prop) (n:Int) (r:Option (List En)×Int×DM) (e:Ending) (w':World):Prop:=
 match r.1 with
 |none=>e= .returned (.tuple #[.pointer none,.int .i64 r.2.1])∧DkS w g F r.2.2 w'
 |some L=> ∃t may T w3,e= .returned (.tuple #[.pointer (some ⟨t,0,none⟩),.int .i64 0])∧DkS w g F r.2.2 w3∧Ext w3 w'∧Tb w' t g n L may T∧ ∀i,T i→w3.heap.size≤i
theorem q9h {σ:DM} (h:okD σ) (nm:List UInt8):(q0h σ nm).1.length≤1048576:=by
 have h1:=h.used;have h2:=h.cap1;unfold q0h
 split
 ·simp
 ·unfold q1b
  split
  ·simp
  ·split
   ·simp
   ·rename_i f hf
    have:=q9B (q0O hf).1
    split<;>simp<;>omega
theorem z4B (c:Int):q2E c=c∨q2E c=90:=by unfold q2E;split;exact .inl rfl;exact .inr rfl
theorem z9f {w:World} {g:Nat} {F:Nat→Prop} {σ:DM} (h:Dk w g F σ) (n:Int):
  Calls Tryz.prog 179 #[.pointer (some ⟨g,0,none⟩),.int .i64 n] w (y1Z w g F n (q5X σ n)):=by
 have HT:=η26 (fun W=>z6U n W);have HB:=η26 (fun W=>z8s n W);have HD:=η26 h;have hl1:=q7V 116 n;have hl2:=q7V 98 n;have hlen1:=q9h h.1 (q0G 116 n)
 have HM:Hid (q5X σ n=if (q0h σ (q0G 116 n)).2.1≠0 then (none,q2E (q0h σ (q0G 116 n)).2.1,(q0h σ (q0G 116 n)).2.2)
  else match q8G (q0h σ (q0G 116 n)).1 with
  |none=>(none,90,(q0h σ (q0G 116 n)).2.2)
  | some L=>if (q0h (q0h σ (q0G 116 n)).2.2 (q0G 98 n)).2.1=61 then (none,61,(q0h (q0h σ (q0G 116 n)).2.2 (q0G 98 n)).2.2)
   else (some L,0,(q0h (q0h σ (q0G 116 n)).2.2 (q0G 98 n)).2.2)):=η26 rfl
 have HW1:=η26 (fun W (k:Ext w W)=>z2O (h.ext k) (q0G 116 n) hl1);have HW2:=η26 (fun W W' (hd:DkS w g F (q0h σ (q0G 116 n)).2.2 W) (k:Ext W W')=>z2O (hd.dk.ext k) (q0G 98 n) hl2);have hlen2:okD (q0h σ (q0G 116 n)).2.2→(q0h (q0h σ (q0G 116 n)).2.2 (q0G 98 n)).1.length≤1048576:=fun h=>q9h h (q0G 98 n)
 generalize q0G 116 n=TN at*;generalize q0G 98 n=BN at*;clear hl1 hl2 h;obtain ⟨r1,h1⟩: ∃r,q0h σ TN=r:=⟨_,rfl⟩
 rw[h1] at HW1 HW2 HM hlen1 hlen2;obtain ⟨r2,h2⟩: ∃r,q0h r1.2.2 BN=r:=⟨_,rfl⟩
 rw[h2] at HW2 HM hlen2;obtain ⟨S1,c1,σ1⟩:=r1;obtain ⟨S2,c2,σ2⟩:=r2;clear h1 h2;simp only at HW1 HW2 HM hlen1 hlen2;go_enter Tryz.func179,Tryz.ntmps179;go_wp2_with fail;refine (HT.out _).mono ?_;rintro e w1 ⟨rfl,hb⟩;have HX1:=η26 hb;clear hb;go_wp2_with fail;refine (HW1.out _ HX1.out).mono ?_;rintro e w2 ⟨rfl,hd⟩;have HD2:=η26 (DkS.from HD.out HX1.out hd);clear hd;by_cases e1:c1=0
 case neg=>
  have HE:Hid (q5X σ n=(none,q2E c1,σ1)):=η26 (by rw[HM.out,if_pos e1]);have hb:(c1 !=0)=true:=by simpa using e1
  clear HM e1 hlen1 hlen2;go_wp2_with fail;refine (z3A c1 _).mono ?_;rintro e w3 ⟨rfl,rfl⟩;go_wp2_with fail;go_ret2;rw[HE.out];exact ⟨rfl,HD2.out⟩
 case pos=>
 subst e1;have HGet:=η26 (fun W=>y0p S1 W hlen1);have HGl:Hid (∀L,q8G S1=some L→okT L):=η26 fun L h=>⟨(q7M h).2.1,(q7M h).2.2.1,z8M h hlen1⟩
 have hlen2':=hlen2 HD2.out.dk.1
 cases hg:q8G S1 with
 | none=>
  have HE:Hid (q5X σ n=(none,90,σ1)):=η26 (by rw[HM.out,if_neg (fun h=>h rfl),hg]);rw[hg] at HGet;clear HM hlen1 hlen2 hlen2' hg;go_wp2_with fail;refine (HGet.out _).mono ?_;rintro e w3 ⟨rfl,hb⟩;have HX3:=η26 hb;clear hb;go_wp2_with fail;go_ret2;rw[HE.out];exact ⟨rfl,HD2.out.ext HX3.out⟩
 | some L=>
  rw[hg] at HGet;have HLl:=η26 (HGl.out L hg);have hLl:=HLl.out.len;go_wp2_with fail;refine (HGet.out _).mono ?_;rintro e w3 ⟨v,rfl,hrow,hb⟩;have HX3:=η26 hb;have HR3:=η26 hrow;obtain ⟨va,vc,rfl⟩:=q0J hrow;clear hb hrow HGet;go_wp2_with fail;refine (HB.out _).mono ?_;rintro e w4 ⟨rfl,hb⟩;have HX4:=η26 (HX3.out.trans hb);have HR4:=η26 (q0N HR3.out hb);clear hb HR3;go_wp2_with fail;refine (HW2.out _ _ HD2.out HX4.out).mono ?_;rintro e w5 ⟨rfl,hd⟩
  have hR5:w5.ownsRow w2.heap.size 106 3 (.slice va L.length vc) L.length (ecs L):=q1O HR4.out fun i hi=>hd.off.block i (q0c HR4.out i hi).2 (by
   have h1:=(q0c HR4.out i hi).1;have hlt: ∀i,Gr F w w2 i→i<w2.heap.size:=by obtain ⟨_,_,_,_,_,_,h⟩:=HD2.out.dk;exact h
   intro hf;have:=hlt i hf
   omega)
  have HD5:=η26 (HD2.out.trans (DkS.from HD2.out.dk HX4.out hd));clear hd;obtain ⟨_,_,e0,hens⟩:=Ens.of_own (Own.of_row hR5)
  cases e0;have HEns:=η26 hens;clear hens hR5 HR4;by_cases e2:c2=61
  ·have HE:Hid (q5X σ n=(none,61,σ2)):=η26 (by rw[HM.out,if_neg (fun h=>h rfl),hg];simp only;rw[if_pos e2])
   subst e2;clear HM hlen1 hlen2 hlen2' hg;go_wp2_with fail;go_ret2;rw[HE.out];exact ⟨rfl,HD5.out⟩
  ·have HE:Hid (q5X σ n=(some L,0,σ2)):=η26 (by rw[HM.out,if_neg (fun h=>h rfl),hg];simp only;rw[if_neg e2])
   have hb:(c2==61)=false:=by simpa using e2
   have HMid:=η26 (y0K w5 HEns.out (by omega));have HLo:=η26 (fun W=>z6J S2 W hlen2');clear HM hlen1 hlen2 hlen2' hg e2;go_wp2_with fail;refine HMid.out.mono ?_;rintro e w6 ⟨vm,rfl,hrow,hb6⟩;have HX6:=η26 hb6;have HRm:=η26 hrow;obtain ⟨ma,mc,rfl⟩:=q0J hrow;clear hrow hb6 HMid;go_wp2_with fail;refine (HLo.out _).mono ?_;rintro e w7 ⟨p,z,mv,D,rfl,hfil,hmb,_,hb7⟩;have HX7:=η26 (HX6.out.trans hb7);have HRm7:=η26 (q0N HRm.out hb7);have HMB:Hid (y1P w6.heap.size mv):=η26 hmb;have HSo:=η26 (z9S w7 hfil (HEns.out.ext HX7.out));clear hb7 HRm HLo hfil hmb;go_wp2_with fail;refine HSo.out.mono ?_;rintro e w8 ⟨p',z',mv',D',rfl,hfil,hmb,hall,hb8⟩;have HX8:=η26 (HX7.out.trans hb8);have HRm8:=η26 (q0N HRm7.out hb8);have HMB8:=η26 (hmb _ HMB.out);have HF8:=η26 hfil;have HAll:=η26 hall;clear hb8 hfil hmb hall HRm7 HMB HSo;go_wp2_with fail;go_ret2;rw[HE.out]
   have hr5:w.heap.size≤w5.heap.size:=HD5.out.off.size;refine ⟨w8.heap.size,z5x p' z' D',fun i=>InT w8.heap.size (.slice ma (q2Y L).length mc) mv' i,w5,rfl,HD5.out,HX8.out.trans (q0B _ _),⟨_,p',z',mv',D',⟨Blk.new w8 _ _,q0v (q0N HRm8.out (q0B _ _)) (Nat.zero_le _),HF8.out.ext (q0B _ _)⟩,rfl,HAll.out,HLl.out,fun i hi=>hi,fun i hi=>?_⟩,fun i hi=>?_⟩
   ·rw[World.size_alloc]
    rcases hi with rfl|hi|hi
    ·omega
    ·have:=(q0c HRm8.out i hi).2;omega
    ·have:=HF8.out.lt hi;omega
   ·have h8:=HX8.out.size
    have h6:=HX6.out.size;rcases hi with rfl|hi|hi
    ·exact h8
    ·exact (q0c HRm8.out i hi).1
    ·have:=HMB8.out i hi;omega
end
section
open Go.RowKit
def q1C (σ:DM) (n:Int) (i:Nat):En×Int×DM:=
 if (q1b σ (q0G 116 n) (8+24*(i:Int)) 24).2.1≠0 then (en0,q2E (q1b σ (q0G 116 n) (8+24*(i:Int)) 24).2.1,(q1b σ (q0G 116 n) (8+24*(i:Int)) 24).2.2)
 else match q9Q (q1b σ (q0G 116 n) (8+24*(i:Int)) 24).1 with
 |none=>(en0,90,(q1b σ (q0G 116 n) (8+24*(i:Int)) 24).2.2)
 |some x=>(x,0,(q1b σ (q0G 116 n) (8+24*(i:Int)) 24).2.2)
structure TbD (w:World) (t g:Nat) (n:Int) (L:List En) (may:Int→Bool) (T F:Nat→Prop) (σ:DM):Prop where
 d:Dk w g F σ
 t:Tb w t g n L may T
 ap: ∀i,T i→¬F i
section
variable {w w':World} {t g:Nat} {n:Int} {L:List En} {v:Value} {p s:Nat} {mv:Value} {D:DataW Unit} {may:Int→Bool} {T T' F:Nat→Prop} {σ σ':DM}
theorem TbD.ext (h:TbD w t g n L may T F σ) (k:Ext w w'):TbD w' t g n L may T F σ:=⟨h.d.ext k,h.t.ext k,h.ap⟩
theorem TbD.disk (h:TbD w t g n L may T F σ) (k:DkS w g F σ' w'):TbD w' t g n L may T (Gr F w w') σ':=
 ⟨k.dk,h.t.off k.off h.ap,fun i hi=>Gr.not (h.ap i hi) (h.t.lt i hi)⟩
theorem Tb.cells (h:Tb w t g n L may T): ∃(v:Option Addr) (p:Nat×Nat) (s:Nat) (mv:Value),T t∧w.cell? ⟨t,0,none⟩=some (.pointer (some ⟨g,0,none⟩))∧w.cell? ⟨t,1,none⟩=some (.int .i64 n)∧w.cell? ⟨t,2,none⟩=some (.int .i64 (L.length:Int))∧
  w.cell? ⟨t,3,none⟩=some (.slice v (q2Y L).length s)∧Mds w v (q2Y L).length s (q2Y L)∧
  w.cell? ⟨t,4,none⟩=some (.int .i64 (p.1:Int))∧w.cell? ⟨t,5,none⟩=some (.int .i64 (p.2:Int))∧w.cell? ⟨t,6,none⟩=some mv∧ ∃D,FilK w p.1 p.2 mv D∧may=z5x p.1 p.2 D:=by
 obtain ⟨v,p,s,mv,D,h1,h2,h3,h4,h5,h6⟩:=h;obtain ⟨ao,cap,rfl,hm⟩:=Mds.of_own (Own.of_row h1.mids);exact ⟨ao,(p,s),cap,mv,h5 t (.inl rfl),h1.blk.cell 0,h1.blk.cell 1,h1.blk.cell 2,h1.blk.cell 3,hm,h1.blk.cell 4,h1.blk.cell 5,h1.blk.cell 6,D,h1.fil,h2⟩
theorem Dk.Flt (h:Dk w g F σ): ∀i,F i→i<w.heap.size:=by obtain ⟨_,_,_,_,_,_,h⟩:=h;exact h
theorem z2S {i j:Nat} {u:Value} (k:OffS F w w') (h:w.cell? ⟨i,j,none⟩=some u) (hn:¬F i):w'.cell? ⟨i,j,none⟩=some u:=by
 have hb:=k.block i (World.block_lt_of_cell? (h:=h)) hn;simp only[World.cell?,hb] at h⊢;exact h
theorem z7s (h:okD σ) (nm:List UInt8) (a m:Int):(q1b σ nm a m).1.length≤1048576:=by
 have h1:=h.used;have h2:=h.cap1;unfold q1b
 split
 ·simp
 ·split
  ·simp
  ·rename_i f hf
   have:=q9B (q0O hf).1
   split<;>simp<;>omega
theorem z1b (h:TbD w t g n L may T F σ) (i:Nat) (hi:i≤1000000):
  Calls Tryz.prog 164 #[.pointer (some ⟨t,0,none⟩),.int .i64 (i:Int)] w fun e w'=>e= .returned (.tuple #[enV (q1C σ n i).1,.int .i64 (q1C σ n i).2.1])∧DkS w g F (q1C σ n i).2.2 w':=by
 have HD:=η26 h;have HT:=η26 (fun W=>z6U n W);have HAt:=η26 (fun W=>y1k i W hi);have hl1:=q7V 116 n
 have HM:Hid (q1C σ n i=if (q1b σ (q0G 116 n) (8+24*(i:Int)) 24).2.1≠0 then (en0,q2E (q1b σ (q0G 116 n) (8+24*(i:Int)) 24).2.1,(q1b σ (q0G 116 n) (8+24*(i:Int)) 24).2.2)
  else match q9Q (q1b σ (q0G 116 n) (8+24*(i:Int)) 24).1 with
  |none=>(en0,90,(q1b σ (q0G 116 n) (8+24*(i:Int)) 24).2.2)
  |some x=>(x,0,(q1b σ (q0G 116 n) (8+24*(i:Int)) 24).2.2)):=η26 rfl
 have HR:=η26 (fun W (k:Ext w W)=>z2g (h.d.ext k) (q0G 116 n) (8+24*(i:Int)) 24 hl1 (by omega) (by omega) (by decide) (by decide));have hlen:(q1b σ (q0G 116 n) (8+24*(i:Int)) 24).1.length≤1048576:=z7s h.d.1 _ _ _;generalize q0G 116 n=TN at*;obtain ⟨A,hA⟩: ∃A:Int,8+24*(i:Int)=A:=⟨_,rfl⟩
 rw[hA] at HAt HR HM hlen;obtain ⟨r1,h1⟩: ∃r,q1b σ TN A 24=r:=⟨_,rfl⟩
 rw[h1] at HR HM hlen;obtain ⟨S,c,σ1⟩:=r1;simp only at HR HM hlen;clear h1 hA hl1;obtain ⟨v,p,s,mv,htT,c0,c1,_⟩:=(h.ext (q0B w (.cells #[.int .u64 0,.int .i64 0,.int .i64 0] 106))).t.cells;have d0:=q0A (Ext.refl _).drew c0;have d1:=q0A (Ext.refl _).drew c1;have HX0:=η26 ((q0B w (.cells #[.int .u64 0,.int .i64 0,.int .i64 0] 106)).drew);have hbk:=(Blk.new w 106 #[.int .u64 0,.int .i64 0,.int .i64 0])
 have HBk:=η26 hbk;have hFlt:=h.d.Flt;have HnF:=η26 (h.ap t htT);have HFlt:=η26 hFlt;clear h hbk hFlt htT;go_enter Tryz.func164,Tryz.ntmps164;go_wp2_with fail
 go_region_held3 (fun W=>W.cell? ⟨t,0,none⟩=some (.pointer (some ⟨g,0,none⟩))∧W.cell? ⟨t,1,none⟩=some (.int .i64 n))
  (first|exact HS2.out|exact HS1.out|exact ⟨d0,d1⟩)
  (first
   |(go_at_call 208;refine (HT.out _).mono ?_;rintro e wa ⟨rfl,h1⟩;have HT1:=η26 h1;have H1:=η26 (HX0.out.trans h1);have HS1:=η26 (And.intro (q0A h1 d0) (q0A h1 d1));clear h1)
   |(go_at_call 215;refine (HAt.out _).mono ?_;rintro e wz ⟨rfl,rfl⟩)
   |(go_at_call 90;refine (HR.out _ H1.out).mono ?_;rintro e wb ⟨rfl,h2⟩;have H2:=η26 h2;have HS2:=η26 (And.intro (z2S h2.off HS1.out.1 HnF.out) (z2S h2.off HS1.out.2 HnF.out));clear h2))
 all_goals
  have HDW:=η26 (DkS.from (HD.out.d.ext HX0.out) HT1.out H2.out);have hKb:Blk wb w.heap.size 106 #[.int .u64 0,.int .i64 0,.int .i64 0]:=HDW.out.off.blk (HBk.out.ext ((Ext.refl _).drew)) (fun hf=>by have:=HFlt.out _ hf;omega);have HKb:=η26 hKb;have HFin:Hid (∀V W,Ext wb V→OffS (fun i=>i=w.heap.size) V W→DkS w g F σ1 W):=η26 fun V W h1 h2=>by
   have s1:=h2.size;have s2:=h1.size;refine DkS.box (w1:=V) HX0.out (HDW.out.ext h1) HFlt.out s1 h2.os h2.tape h2.output fun i hi hn=>h2.block i hi fun e=>hn ?_
   subst e;exact ⟨Nat.le_refl _,by show w.heap.size<(w.alloc _).heap.size;rw[World.size_alloc];omega⟩
  clear HDW HX0 HT1 H1 HS1 H2 HS2;by_cases e1:c=0
  ·subst e1
   cases hg:q9Q S with
   | none=>
    have HE:Hid (q1C σ n i=(en0,90,σ1)):=η26 (by rw[HM.out,if_neg (fun h=>h rfl),hg]);have hGe:=q9K S wb (by omega);unfold q6E at hGe;rw[hg] at hGe;have HGe:Hid (Calls Tryz.prog 216 #[.string ⟨S.toArray⟩] wb fun r w'=>r= .returned (.tuple #[.agg #[.int .u64 0,.int .i64 0,.int .i64 0],.bool false])∧Ext wb w'):=η26 hGe;clear hGe hg hKb HM hlen;go_wp2_with fail;refine HGe.out.mono ?_;rintro e wc ⟨rfl,hb⟩;have HXc:=η26 (hb.alloc (.cells #[.int .u64 0,.int .i64 0,.int .i64 0] 106));have hkc:=HKb.out.ext HXc.out;have r0:(wc.alloc (.cells #[.int .u64 0,.int .i64 0,.int .i64 0] 106)).cell? ⟨w.heap.size,0,none⟩=some (Value.int .u64 0):=hkc.cell 0;have r1:(wc.alloc (.cells #[.int .u64 0,.int .i64 0,.int .i64 0] 106)).cell? ⟨w.heap.size,1,none⟩=some (Value.int .i64 0):=hkc.cell 1;have r2:(wc.alloc (.cells #[.int .u64 0,.int .i64 0,.int .i64 0] 106)).cell? ⟨w.heap.size,2,none⟩=some (Value.int .i64 0):=hkc.cell 2
    have y0:=(hkc).free 0;have y1:=(hkc).free 1;have y2:=(hkc).free 2;clear hb hkc HGe;go_wp2_with fail
    (try simp only[Exit.inBlock,Exit.then])
    refine bodyPost_ret (v:= .tuple #[.agg #[.int .u64 (0),.int .i64 (0),.int .i64 (0)],.int .i64 (90)]) (by rw[q0D rfl];go_simp) rfl ?_;rw[HE.out];refine ⟨rfl,?_⟩;refine HFin.out _ _ ?_ (OffS.trans (OffS.trans (OffS.set _ ?_ _ _) (OffS.set _ ?_ _ _)) (OffS.set _ ?_ _ _))<;>first|rfl|exact HXc.out
   | some x=>
    have HE:Hid (q1C σ n i=(x,0,σ1)):=η26 (by rw[HM.out,if_neg (fun h=>h rfl),hg]);have hGe:=q9K S wb (by omega);unfold q6E at hGe;rw[hg] at hGe;obtain ⟨x1,x2,x3⟩:=x;have HGe:Hid (Calls Tryz.prog 216 #[.string ⟨S.toArray⟩] wb fun r w'=>r= .returned (.tuple #[.agg #[.int .u64 x1,.int .i64 x2,.int .i64 x3],.bool true])∧Ext wb w'):=η26 hGe;clear hGe hg hKb HM hlen;go_wp2_with fail;refine HGe.out.mono ?_;rintro e wc ⟨rfl,hb⟩;have HXc:=η26 (hb.alloc (.cells #[.int .u64 x1,.int .i64 x2,.int .i64 x3] 106));have hkc:=HKb.out.ext HXc.out;have r0:(wc.alloc (.cells #[.int .u64 x1,.int .i64 x2,.int .i64 x3] 106)).cell? ⟨w.heap.size,0,none⟩=some (Value.int .u64 0):=hkc.cell 0;have r1:(wc.alloc (.cells #[.int .u64 x1,.int .i64 x2,.int .i64 x3] 106)).cell? ⟨w.heap.size,1,none⟩=some (Value.int .i64 0):=hkc.cell 1;have r2:(wc.alloc (.cells #[.int .u64 x1,.int .i64 x2,.int .i64 x3] 106)).cell? ⟨w.heap.size,2,none⟩=some (Value.int .i64 0):=hkc.cell 2
    have y0:=(hkc).free 0;have y1:=(hkc).free 1;have y2:=(hkc).free 2;clear hb hkc HGe;go_wp2_with fail
    (try simp only[Exit.inBlock,Exit.then])
    refine bodyPost_ret (v:= .tuple #[.agg #[.int .u64 (x1),.int .i64 (x2),.int .i64 (x3)],.int .i64 (0)]) (by rw[q0D rfl];go_simp) rfl ?_;rw[HE.out];refine ⟨rfl,?_⟩;refine HFin.out _ _ ?_ (OffS.trans (OffS.trans (OffS.set _ ?_ _ _) (OffS.set _ ?_ _ _)) (OffS.set _ ?_ _ _))<;>first|rfl|exact HXc.out
  ·have HE:Hid (q1C σ n i=(en0,q2E c,σ1)):=η26 (by rw[HM.out,if_pos e1])
   have hb:(c !=0)=true:=by simpa using e1
   have HBr:=η26 (fun W=>z3A c W);have r0:wb.cell? ⟨w.heap.size,0,none⟩=some (Value.int .u64 0):=hKb.cell 0;have r1:wb.cell? ⟨w.heap.size,1,none⟩=some (Value.int .i64 0):=hKb.cell 1;have r2:wb.cell? ⟨w.heap.size,2,none⟩=some (Value.int .i64 0):=hKb.cell 2;have y0:=(hKb).free 0;have y1:=(hKb).free 1;have y2:=(hKb).free 2;clear HM e1 hlen hKb;go_wp2_with fail;refine (HBr.out _).mono ?_;rintro e wc ⟨rfl,rfl⟩;go_wp2_with fail
   (try simp only[Exit.inBlock,Exit.then])
   refine bodyPost_ret (v:= .tuple #[.agg #[.int .u64 (0),.int .i64 (0),.int .i64 (0)],.int .i64 (q2E c)]) (by rw[q0D rfl];go_simp) rfl ?_;rw[HE.out];refine ⟨rfl,?_⟩;refine HFin.out _ _ ?_ (OffS.trans (OffS.trans (OffS.set _ ?_ _ _) (OffS.set _ ?_ _ _)) (OffS.set _ ?_ _ _))<;>first|rfl|exact Ext.refl _
end
end
section
open Go.RowKit
def q6F (n:Int) (x:En):Nat→DM→Nat→Nat→Nat×Int×DM
 |0,σ,lo,_=>(lo,0,σ)
 | f +1,σ,lo,hi=>if lo<hi then
   if (q1C σ n ((lo+hi)/2)).2.1≠0 then (0,(q1C σ n ((lo+hi)/2)).2.1,(q1C σ n ((lo+hi)/2)).2.2)
   else if q0e (q1C σ n ((lo+hi)/2)).1 x then q6F n x f (q1C σ n ((lo+hi)/2)).2.2 ((lo+hi)/2+1) hi
   else q6F n x f (q1C σ n ((lo+hi)/2)).2.2 lo ((lo+hi)/2)
  else (lo,0,σ)
def q1e (σ:DM) (n:Int) (L:List En) (x:En):Nat×Int×DM:=
 q6F n x (L.length+1) σ (q0n L.length x 0 (q2Y L)).1 (q0n L.length x 0 (q2Y L)).2
theorem q8W (m:Nat): ∀(i:Nat) (l:List En),i+l.length≤m→ ∀y∈q3u m i l,y.2<m
 |_,[],_=>fun y hy=>by cases hy
 | i, e::r,h=>fun y hy=>by
  rw[List.length_cons] at h;unfold q3u at hy
  split at hy
  ·rcases List.mem_cons.1 hy with rfl|hy
   ·show i<m;omega
   ·exact q8W m (i+1) r (by omega) y hy
  ·exact q8W m (i+1) r (by omega) y hy
section
variable {w w':World} {t g:Nat} {n:Int} {L:List En} {may:Int→Bool} {T F:Nat→Prop} {σ:DM}
theorem z4U (h:TbD w t g n L may T F σ) (x:En):
  Calls Tryz.prog 163 #[.pointer (some ⟨t,0,none⟩),enV x] w fun e w'=>e= .returned (.tuple #[.int .i64 ((q1e σ n L x).1:Int),.int .i64 (q1e σ n L x).2.1])∧DkS w g F (q1e σ n L x).2.2 w':=by
 have hok:=h.t.okL;have hnk:=q7F x hok.sort;have hlen:=hok.len;obtain ⟨x1,x2,x3⟩:=x;show Calls _ _ #[_,.agg #[.int .u64 x1,.int .i64 x2,.int .i64 x3]] _ _;have HD:=η26 h;have hx1:=q0B w (.cells #[.int .u64 x1,.int .i64 x2,.int .i64 x3] 106);have HX1:=η26 hx1;have hbk:=Blk.new w 106 #[.int .u64 x1,.int .i64 x2,.int .i64 x3];obtain ⟨v,p,s,mv,htT,_,_,c2,c3,hmd,_⟩:=(h.ext hx1).t.cells;have d2:=q0F c2;have d3:=q0F c3;have e0:=q0F (show (w.alloc (.cells #[.int .u64 x1,.int .i64 x2,.int .i64 x3] 106)).cell? ⟨w.heap.size,0,none⟩=some (.int .u64 x1) from hbk.cell 0);have e1:=q0F (show (w.alloc (.cells #[.int .u64 x1,.int .i64 x2,.int .i64 x3] 106)).cell? ⟨w.heap.size,1,none⟩=some (.int .i64 x2) from hbk.cell 1);have e2:=q0F (show (w.alloc (.cells #[.int .u64 x1,.int .i64 x2,.int .i64 x3] 106)).cell? ⟨w.heap.size,2,none⟩=some (.int .i64 x3) from hbk.cell 2);have HN:=η26 (fun W (k:Ext (w.alloc (.cells #[.int .u64 x1,.int .i64 x2,.int .i64 x3] 106)) W)=>z6e (m:=L.length) (x1,x2,x3) W (hmd.ext k) (by omega) (q8W L.length 0 L (by omega)))
 have HFM:Hid (q1e σ n L (x1,x2,x3)=q6F n (x1,x2,x3) (L.length+1) σ (q0n L.length (x1,x2,x3) 0 (q2Y L)).1 (q0n L.length (x1,x2,x3) 0 (q2Y L)).2):=η26 rfl;obtain ⟨R,hR⟩: ∃R,q1e σ n L (x1,x2,x3)=R:=⟨_,rfl⟩
 rw[hR] at HFM;rw[hR];obtain ⟨z,hz⟩: ∃z,q0n L.length (x1,x2,x3) 0 (q2Y L)=z:=⟨_,rfl⟩
 rw[hz] at HFM hnk;have HNK:=η26 hnk;generalize hQ:lbE L (x1,x2,x3)=lb at*;obtain ⟨lo0,hi0⟩:=z;have HNr:Hid (∀W,Ext (w.alloc (.cells #[.int .u64 x1,.int .i64 x2,.int .i64 x3] 106)) W→Calls Tryz.prog 214 #[.slice v (q2Y L).length s,.int .i64 (L.length:Int),.agg #[.int .u64 x1,.int .i64 x2,.int .i64 x3]] W fun r w'=>r= .returned (.tuple #[.int .i64 (lo0:Int),.int .i64 (hi0:Int)])∧Ext W w'):=η26 fun W k=>by
  have h1:=HN.out W k;rw[hz] at h1;exact h1
 have hFlt:=h.d.Flt;have HFlt:=η26 hFlt;generalize (q2Y L).length=ml at*;have HBk:=η26 hbk;have HTD:=η26 (h.ext hx1);clear h hok hnk hz HN hmd c2 c3 hR hQ hx1 htT hFlt hbk;go_enter Tryz.func163,Tryz.ntmps163;go_wp2_with fail;generalize w.alloc (.cells #[.int .u64 x1,.int .i64 x2,.int .i64 x3] 106)=w1 at*;refine q0E (by kernel_rfl) (by kernel_rfl) ?_
 repeat (go_big_quiet_step (fail))
 go_big_quiet_step (exact Calls.quiet_ext (HNr.out _ (ExtOf.h _)))
 repeat (go_big_quiet_step (fail))
 refine wpQuiet_nil ?_;intro w2 hw2;have HD2:=η26 ((DkS.refl HTD.out.d).ext hw2);have HA1:Hid (∀i,T i→i<w1.heap.size∧¬F i):=η26 fun i hi=>⟨HTD.out.t.lt i hi,HTD.out.ap i hi⟩
 have HTB:Hid (∀τ W,DkS w1 g F τ W→TbD W t g n L may T (Gr F w1 W) τ):=η26 fun τ W hd=>HTD.out.disk hd
 have HCx:Hid (∀τ W,DkS w1 g F τ W→Blk W w.heap.size 106 #[.int .u64 x1,.int .i64 x2,.int .i64 x3]):=η26 fun τ W hd=>hd.off.blk HBk.out fun hf=>by have:=HFlt.out _ hf;omega
 have HFin:Hid (∀τ W,DkS w1 g F τ W→DkS w g F τ W):=η26 fun τ W hd=>DkS.from HD.out.d HX1.out hd
 have hnk:=HNK.out;have HL:=η26 (show lo0≤hi0∧hi0≤L.length by omega);clear hw2 e0 e1 e2 d2 d3 HNr hnk HBk;go_wp2_with fail
 go_loopw [6,7] (fun a b W=> ∃(lo hi f:Nat) (τ:DM),lo≤hi∧hi≤L.length∧hi-lo<f∧a= .int .i64 (lo:Int)∧b= .int .i64 (hi:Int)∧q6F n (x1,x2,x3) f τ lo hi=R∧DkS w1 g F τ W) (fun a b _=>(intOf b).toNat-(intOf a).toNat)
 case atStart=>exact ⟨lo0,hi0,L.length+1,σ,HL.out.1,HL.out.2,by have:=HL.out;omega,rfl,rfl,HFM.out.symm,HD2.out⟩
 case round=>
  obtain ⟨lo,hi,f,τ,hlo,hhi,hf,rfl,rfl,hfind,hd⟩:=hrel;have HDk:=η26 hd;obtain ⟨f,rfl⟩: ∃f',f=f'+1:=⟨f-1,by omega⟩
  unfold q6F at hfind;clear hd;by_cases hlt:lo<hi
  ·rw [if_pos hlt] at hfind
   have hd:decide ((lo:Int)<(hi:Int))=true:=by simp;omega
   obtain ⟨m,hm⟩: ∃m,(lo+hi)/2=m:=⟨_,rfl⟩
   rw[hm] at hfind;obtain ⟨S,hS⟩: ∃S:Int,(lo:Int)+(hi:Int)=S:=⟨_,rfl⟩
   have q1:IntKind.i64.wrap ((lo:Int)+(hi:Int))=S:=by rw[IntKind.wrap_i64];omega
   have q2:IntKind.u64.wrap S=S:=by rw[IntKind.wrap_u64];omega
   have q3:Int.tdiv S 2=(m:Int):=by rw[Int.tdiv_eq_ediv_of_nonneg (by omega)];omega
   have q4:IntKind.u64.wrap (m:Int)=(m:Int):=by rw[IntKind.wrap_u64];omega
   have q5:IntKind.i64.wrap (m:Int)=(m:Int):=by rw[IntKind.wrap_i64];omega
   have q6:IntKind.i64.wrap ((m:Int)+1)=(m:Int)+1:=by rw[IntKind.wrap_i64];omega
   have hm1:lo≤m∧m<hi:=by omega
   have HEn:=η26 (z1b (HTB.out _ _ HDk.out) m (by omega));have HTr:Hid (∀τ' W,DkS wr g (Gr F w1 wr) τ' W→DkS w1 g F τ' W):=η26 fun τ' W hd=>HDk.out.trans hd
   obtain ⟨r,hr⟩: ∃r,q1C τ n m=r:=⟨_,rfl⟩
   rw[hr] at hfind HEn;obtain ⟨⟨y1,y2,y3⟩,c,τ'⟩:=r;simp only at hfind;have HEn:Hid (Calls Tryz.prog 164 #[.pointer (some ⟨t,0,none⟩),.int .i64 (m:Int)] wr fun e w'=>e= .returned (.tuple #[.agg #[.int .u64 y1,.int .i64 y2,.int .i64 y3],.int .i64 c])∧DkS wr g (Gr F w1 wr) τ' w'):=HEn;have HLs:=η26 (fun W=>q9m (y1,y2,y3) (x1,x2,x3) W);clear hm hr hS;by_cases hc:c=0
   ·subst hc
    rw[if_neg (fun h=>h rfl)] at hfind;have HFi:=η26 hfind;clear hfind;go_wp2_with fail;refine HEn.out.mono ?_;rintro e w4 ⟨rfl,hd4⟩;have HD4:=η26 (HTr.out _ _ hd4);have hk4:=HCx.out _ _ HD4.out;have hk5:=hk4.ext (q0B w4 (.cells #[.int .u64 y1,.int .i64 y2,.int .i64 y3] 106));have r0:(w4.alloc (.cells #[.int .u64 y1,.int .i64 y2,.int .i64 y3] 106)).cell? ⟨w.heap.size,0,none⟩=some (Value.int .u64 x1):=hk5.cell 0;have r1:(w4.alloc (.cells #[.int .u64 y1,.int .i64 y2,.int .i64 y3] 106)).cell? ⟨w.heap.size,1,none⟩=some (Value.int .i64 x2):=hk5.cell 1;have r2:(w4.alloc (.cells #[.int .u64 y1,.int .i64 y2,.int .i64 y3] 106)).cell? ⟨w.heap.size,2,none⟩=some (Value.int .i64 x3):=hk5.cell 2;clear hd4 hk4 hk5 HEn HTr;go_wp2_with fail;refine (HLs.out _).mono ?_;rintro e w5 ⟨rfl,hb5⟩;have HD5:=η26 (HD4.out.ext ((q0B _ _).trans hb5));clear hb5 HLs r0 r1 r2
    cases hlx:q0e (y1,y2,y3) (x1,x2,x3) with
    | true=>
     have hfi:=HFi.out;rw[hlx,if_pos rfl] at hfi;have HFi2:=η26 hfi;clear hfi hlx HFi;go_wp2_with fail
     go_roundw
     case rel=>exact ⟨m+1,hi,f,τ',by omega,hhi,by omega,by go_num,rfl,HFi2.out,HD5.out⟩
     case measure=>simp[intOf];omega
    | false=>
     have hfi:=HFi.out;rw[hlx,if_neg (by decide)] at hfi;have HFi2:=η26 hfi;clear hfi hlx HFi;go_wp2_with fail
     go_roundw
     case rel=>exact ⟨lo,m,f,τ',by omega,by omega,by omega,rfl,rfl,HFi2.out,HD5.out⟩
     case measure=>simp[intOf];omega
   ·have hb:(c !=0)=true:=by simpa using hc
    rw[if_pos hc] at hfind;have HFi:=η26 hfind;clear hfind hc;go_wp2_with fail;refine HEn.out.mono ?_;rintro e w4 ⟨rfl,hd4⟩;have HD4:=η26 (HTr.out _ _ hd4);clear hd4 HEn HTr;go_wp2_with fail;go_ret2;rw[←HFi.out];exact ⟨rfl,HFin.out _ _ (HD4.out.ext (q0B _ _))⟩
  ·rw[if_neg hlt] at hfind
   have hd:decide ((lo:Int)<(hi:Int))=false:=by simp;omega
   have HFi:=η26 hfind;clear hfind;go_wp2_with fail;go_ret2;rw[←HFi.out];exact ⟨rfl,HFin.out _ _ HDk.out⟩
end
end
section
open Go.RowKit
def q3z (L:List En) (may:Int→Bool) (h:Int):Bool:=decide (0<L.length)&&may h
section
variable {w w':World} {t g:Nat} {n:Int} {L:List En} {may:Int→Bool} {T F:Nat→Prop} {σ:DM}
theorem z0q (h:Tb w t g n L may T):Calls Tryz.prog 161 #[.pointer (some ⟨t,0,none⟩)] w fun e w'=>e= .returned (.bool false)∧w=w':=by
 obtain ⟨v,p,s,mv,htT,c0,_⟩:=h.cells;clear h;go_enter Tryz.func161,Tryz.ntmps161;go_wp2_with fail;go_ret;exact ⟨rfl,rfl⟩
theorem z8W (h:Tb w t g n L may T) (x:Int):Calls Tryz.prog 162 #[.pointer (some ⟨t,0,none⟩),.int .u64 x] w fun e w'=>e= .returned (.bool (q3z L may x))∧Ext w w':=by
 have HN:=η26 (z0q h);obtain ⟨v,p,s,mv,htT,c0,c1,c2,c3,_,c4,c5,c6,D,hf,rfl⟩:=h.cells;have HF:=η26 (z8T x w hf);obtain ⟨p1,p2⟩:=p;obtain ⟨⟨mo,rfl⟩,_⟩:=hf;clear h;by_cases hl:0<L.length
 ·have hd:decide ((0:Int)<(L.length:Int))=true:=decide_eq_true (by omega)
  have HE:Hid (q3z L (z5x p1 p2 D) x=z5x p1 p2 D x):=η26 (by unfold q3z;rw[decide_eq_true hl];rfl);rw[HE.out];generalize (L.length:Int)=k at*;clear hl;go_enter Tryz.func162,Tryz.ntmps162;go_wp2_with fail;refine HN.out.mono ?_;rintro e w1 ⟨rfl,rfl⟩;go_wp2_with fail;refine HF.out.mono ?_;rintro e w2 ⟨rfl,hb⟩;have HB:=η26 hb;clear hb;go_wp2_with fail;go_ret;exact ⟨rfl,HB.out⟩
 ·have hd:decide ((0:Int)<(L.length:Int))=false:=decide_eq_false (by omega)
  have HE:Hid (q3z L (z5x p1 p2 D) x=false):=η26 (by unfold q3z;rw[decide_eq_false hl];rfl);rw[HE.out];generalize (L.length:Int)=k at*;clear hl;go_enter Tryz.func162,Tryz.ntmps162;go_wp2_with fail;refine HN.out.mono ?_;rintro e w1 ⟨rfl,rfl⟩;go_wp2_with fail;go_ret;exact ⟨rfl,Ext.refl _⟩
end
end
section
open Go.RowKit
def q8w (n:Int) (L:List En) (h b:Int):Nat→DM→Nat→List En→List En×Int×DM
 |0,σ,_,acc=>(acc,0,σ)
 | f +1,σ,i,acc=>if i<L.length then
   if (q1C σ n i).2.1≠0 then ([],(q1C σ n i).2.1,(q1C σ n i).2.2)
   else if inE h b (q1C σ n i).1 then q8w n L h b f (q1C σ n i).2.2 (i+1) (acc++[(q1C σ n i).1])
   else (acc,0,(q1C σ n i).2.2)
  else (acc,0,σ)
def q2h (σ:DM) (n:Int) (L:List En) (may:Int→Bool) (h a b:Int):List En×Int×DM:=
 if min b 1073741824<max a 0∨q3z L may h=false then ([],0,σ)
 else if (q1e σ n L (h,max a 0,0)).2.1≠0 then ([],(q1e σ n L (h,max a 0,0)).2.1,(q1e σ n L (h,max a 0,0)).2.2)
 else q8w n L h (min b 1073741824) (L.length+1) (q1e σ n L (h,max a 0,0)).2.2 (q1e σ n L (h,max a 0,0)).1 []
section
variable {w w' w1 w2:World} {t g:Nat} {n:Int} {L:List En} {may:Int→Bool} {T F V:Nat→Prop} {σ σ':DM} {row:Option Nat}
theorem Dk.grown (h:Dk w g F σ) (k:w.grownBy w' row) (hn: ∀i,row=some i→¬F i):Dk w' g F σ:=
 h.held k.size fun i hi=>k.block i (h.Flt i hi) fun e=>hn i e.symm hi
structure RowV (w:World) (g:Nat) (F:Nat→Prop) (σ:DM) (W:World) (v:Value) (acc:List En):Prop where
 row:W.ownsRow w.heap.size 106 3 v acc.length (ecs acc)
 dk: ∃F',Dk W g F' σ∧(∀i,F' i→Gr F w W i)∧ ∀i,v.ownBlock=some i→¬F' i
 off:OffS F w W
theorem RowV.nil (h:DkS w g F σ w'):RowV w g F σ w' (.slice none 0 0) []:=
 ⟨World.ownsRow_nil _ _ _ _,⟨_,h.dk,fun i hi=>hi,fun i hi=>by cases hi⟩,h.off⟩
theorem RowV.ext {v:Value} {acc:List En} {W W':World} (h:RowV w g F σ W v acc) (k:Ext W W'):RowV w g F σ W' v acc:=by
 obtain ⟨F',h1,h2,h3⟩:=h.dk;refine ⟨q0N h.row k,⟨F',h1.ext k,fun i hi=>?_,h3⟩,h.off.trans (OffS.of_ext k)⟩;rcases h2 i hi with h4|h4
 ·exact .inl h4
 ·exact .inr ⟨h4.1,Nat.lt_of_lt_of_le h4.2 k.size⟩
theorem RowV.step {v:Value} {acc:List En} {W W':World} {F':Nat→Prop} (h:RowV w g F σ W v acc) (hd:Dk W g F' σ) (h2: ∀i,F' i→Gr F w W i) (h3: ∀i,v.ownBlock=some i→¬F' i) (k:DkS W g F' σ' W'):RowV w g F σ' W' v acc:=by
 have hs:=k.off.size;refine ⟨q1O h.row fun i hi=>k.off.block i (q0c h.row i hi).2 (h3 i hi),⟨_,k.dk,fun i hi=>?_,fun i hi hf=>?_⟩,h.off.gr (k.off.mono fun i _ hi=>h2 i hi)⟩
 ·rcases hi with hi|hi
  ·rcases h2 i hi with h4|h4
   ·exact .inl h4
   ·exact .inr ⟨h4.1,by omega⟩
  ·exact .inr ⟨by have:=h.off.size;omega,hi.2⟩
 ·exact Gr.not (h3 i hi) (q0c h.row i hi).2 hf
theorem RowV.grow {v v':Value} {acc acc':List En} {W W':World} (h:RowV w g F σ W v acc) (hr:W'.ownsRow w.heap.size 106 3 v' acc'.length (ecs acc')) (hg:W.grownBy W' v.ownBlock) (hat:v'.ownBlock=v.ownBlock∨v'.ownBlock=some W.heap.size):RowV w g F σ W' v' acc':=by
 obtain ⟨F',h1,h2,h3⟩:=h.dk;have hs:=hg.size;refine ⟨hr,⟨F',h1.grown hg fun i hi=>h3 i hi,fun i hi=>?_,fun i hi hf=>?_⟩,?_⟩
 ·rcases h2 i hi with h4|h4
  ·exact .inl h4
  ·exact .inr ⟨h4.1,by omega⟩
 ·rcases hat with e|e
  ·exact h3 i (e▸hi) hf
  ·rw[e] at hi;cases hi
   have:=h1.Flt _ hf;omega
 ·refine ⟨hg.os.trans h.off.os,hg.tape.trans h.off.tape,hg.output.trans h.off.output,Nat.le_trans h.off.size hs,fun i hi hn=>?_⟩
  rw[hg.block i (Nat.lt_of_lt_of_le hi h.off.size) fun e=>?_,h.off.block i hi hn];have:=(q0c h.row i e.symm).1;omega
theorem RowV.drop {v:Value} {acc:List En} {W:World} (h:RowV w g F σ W v acc):RowV w g F σ W (.slice none 0 0) []:=by
 obtain ⟨F',h1,h2,h3⟩:=h.dk;exact ⟨World.ownsRow_nil _ _ _ _,⟨F',h1,h2,fun i hi=>by cases hi⟩,h.off⟩
def y0w (w:World) (g:Nat) (F:Nat→Prop) (r:List En×Int×DM) (e:Ending) (w':World):Prop:=
 ∃v,e= .returned (.tuple #[v,.int .i64 r.2.1])∧RowV w g F r.2.2 w' v r.1
theorem z7p (h : TbD w t g n L may T F σ) (x a b:Int):
  Calls Tryz.prog 166 #[.pointer (some ⟨t,0,none⟩),.int .u64 x,.int .i64 a,.int .i64 b] w (y0w w g F (q2h σ n L may x a b)):=by
 have HD:=η26 h;have HN:=η26 (z0q h.t);have HMy:=η26 (z8W h.t x)
 have HM:Hid (q2h σ n L may x a b=if min b 1073741824<max a 0∨q3z L may x=false then ([],0,σ)
  else if (q1e σ n L (x,max a 0,0)).2.1≠0 then ([],(q1e σ n L (x,max a 0,0)).2.1,(q1e σ n L (x,max a 0,0)).2.2)
  else q8w n L x (min b 1073741824) (L.length+1) (q1e σ n L (x,max a 0,0)).2.2 (q1e σ n L (x,max a 0,0)).1 []):=η26 rfl
 obtain ⟨A,hA⟩: ∃A,max a 0=A:=⟨_,rfl⟩
 obtain ⟨B,hB⟩: ∃B,min b 1073741824=B:=⟨_,rfl⟩
 rw[hA,hB] at HM;have HF:=η26 (fun W (k:Ext w W)=>z4U (h.ext k) (x,A,0));obtain ⟨r,hr⟩: ∃r,q1e σ n L (x,A,0)=r:=⟨_,rfl⟩
 rw[hr] at HF HM;obtain ⟨i0,c,σ1⟩:=r;simp only at HF HM;obtain ⟨q,hq⟩: ∃q,q3z L may x=q:=⟨_,rfl⟩
 rw[hq] at HMy HM;clear h hr hq;by_cases hAB:B<A
 ·have hd:decide (B<A)=true:=decide_eq_true hAB
  have HE:Hid (q2h σ n L may x a b=([],0,σ)):=η26 (by rw[HM.out,if_pos (.inl hAB)]);clear HM hAB;go_enter Tryz.func166,Tryz.ntmps166;go_wp2_with fail;refine HN.out.mono ?_;rintro e w1 ⟨rfl,rfl⟩;go_wp2_with fail;go_ret2;rw[HE.out];exact ⟨_,rfl,RowV.nil (DkS.refl HD.out.d)⟩
 ·have hd : decide (B<A)=false:=decide_eq_false hAB
  cases q with
  | false=>
   have HE:Hid (q2h σ n L may x a b=([],0,σ)):=η26 (by rw[HM.out,if_pos (.inr rfl)]);clear HM hAB;go_enter Tryz.func166,Tryz.ntmps166;go_wp2_with fail;refine HN.out.mono ?_;rintro e w1 ⟨rfl,rfl⟩;go_wp2_with fail;refine HMy.out.mono ?_;rintro e w2 ⟨rfl,hb⟩;have HB2:=η26 hb;clear hb;go_wp2_with fail;go_ret2;rw[HE.out];exact ⟨_,rfl,RowV.nil ((DkS.refl HD.out.d).ext HB2.out)⟩
  | true =>
   have HM2:Hid (q2h σ n L may x a b=if c≠0 then ([],c,σ1) else q8w n L x B (L.length+1) σ1 i0 []):=η26 (by rw[HM.out,if_neg (by simp[hAB])]);clear HM hAB;go_enter Tryz.func166,Tryz.ntmps166;go_wp2_with fail;refine HN.out.mono ?_;rintro e w1 ⟨rfl,rfl⟩;go_wp2_with fail;refine HMy.out.mono ?_;rintro e w2 ⟨rfl,hb⟩;have HB2:=η26 hb;clear hb;go_wp2_with fail;refine (HF.out _ HB2.out).mono ?_;rintro e w3 ⟨rfl,hd3⟩;have HD3:=η26 (DkS.from HD.out.d HB2.out hd3);clear hd3;by_cases hc:c=0
   ·subst hc
    have HE:Hid (q8w n L x B (L.length+1) σ1 i0 []=q2h σ n L may x a b):=η26 (by rw[HM2.out,if_neg (fun h=>h rfl)]);clear HM2;have HTB:Hid (∀W F',OffS F w W→(∀i,F' i→Gr F w W i)→ ∀τ,Dk W g F' τ→TbD W t g n L may T F' τ):=η26 fun W F' h1 h2 τ h3=>⟨h3,HD.out.t.off h1 HD.out.ap,fun i hi hf=>Gr.not (HD.out.ap i hi) (HD.out.t.lt i hi) (h2 i hf)⟩
    obtain ⟨R,hR⟩: ∃R,q2h σ n L may x a b=R:=⟨_,rfl⟩
    have hlen:=HD.out.t.okL.len;have hws:Hid (∀τ W v acc,RowV w g F τ W v acc→w.heap.size≤W.heap.size):=η26 fun τ W v acc h=>h.off.size
    rw[hR] at HE;have HRg:=η26 hR;clear HN HMy HF hA hB hR;go_wp2_with fail
    go_loopw [10,12] (fun i v W=> ∃(k f:Nat) (τ:DM) (acc:List En),L.length-k<f∧acc.length≤k∧i= .int .i64 (k:Int)∧q8w n L x B f τ k acc=R∧RowV w g F τ W v acc∧(k≤L.length∨acc.length=0)) (fun i _ _=>L.length-(intOf i).toNat)
    case atStart=>exact ⟨i0,L.length+1,σ1,[],by omega,Nat.zero_le _,rfl,HE.out,RowV.nil HD3.out,.inr rfl⟩
    case round =>
     obtain ⟨k,f,τ,acc,hf,hacc,rfl,hsc,hrv,hk0⟩:=hrel;obtain ⟨f,rfl⟩: ∃f',f=f'+1:=⟨f-1,by omega⟩
     have HRV:=η26 hrv;obtain ⟨va,vc,rfl⟩:=q0J hrv.row;unfold q8w at hsc;obtain ⟨F',hd1,hd2,hd3⟩:=hrv.dk;have htb:=HTB.out _ F' hrv.off hd2 τ hd1;obtain ⟨vv,pp,ss,mv,htT,c0,c1,c2,_⟩:=htb.t.cells;have u2:=q0F c2;by_cases hlt:k<L.length
     ·have hd:decide ((k:Int)<(L.length:Int))=true:=decide_eq_true (by omega)
      have q1:IntKind.i64.wrap ((k:Int)+1)=(k:Int)+1:=by rw[IntKind.wrap_i64];omega
      rw[if_pos hlt] at hsc;have HEn:=η26 (z1b htb k (by omega));have HSt:Hid (∀τ' W',DkS wr g F' τ' W'→RowV w g F τ' W' (.slice va acc.length vc) acc):=η26 fun τ' W' h=>HRV.out.step hd1 hd2 hd3 h
      obtain ⟨r,hr⟩: ∃r,q1C τ n k=r:=⟨_,rfl⟩
      rw[hr] at hsc HEn;obtain ⟨⟨y1,y2,y3⟩,c,τ'⟩:=r;simp only at hsc;have HEn:Hid (Calls Tryz.prog 164 #[.pointer (some ⟨t,0,none⟩),.int .i64 (k:Int)] wr fun e w'=>e= .returned (.tuple #[.agg #[.int .u64 y1,.int .i64 y2,.int .i64 y3],.int .i64 c])∧DkS wr g F' τ' w'):=HEn;have HHf:=η26 hf;have hal:acc.length≤50000:=by omega
      obtain ⟨al,hal2⟩: ∃al,acc.length=al:=⟨_,rfl⟩
      have HAl:=η26 hal2;rw[hal2] at HSt HRV hal hacc;rw[hal2];clear hr hrv htb hd1 hd2 hd3 hk0 hal2;generalize L.length=ll at*;by_cases hc:c=0
      ·subst hc
       rw[if_neg (fun h=>h rfl)] at hsc;by_cases hin:y1=x∧y2≤B
       ·have hin2:inE x B (y1,y2,y3)=true:=by unfold inE;rw[decide_eq_true hin.1,decide_eq_true hin.2];rfl
        rw[hin2,if_pos rfl] at hsc;have HSc:=η26 hsc;have b1:(y1 !=x)=false:=by simpa using hin.1
        have b2:decide (B<y2)=false:=decide_eq_false (by omega);clear hsc hin hin2;go_wp2_with fail;refine HEn.out.mono ?_;rintro e w4 ⟨rfl,hd4⟩;have HR4:=η26 (HSt.out _ _ hd4);clear hd4 HEn HSt;have hws4:=hws.out _ _ _ _ HR4.out;have HR5:=η26 ((HR4.out.ext (q0B w4 (.cells #[.int .u64 y1,.int .i64 y2,.int .i64 y3] 106))).ext (q0B _ (.cells #[.int .u64 y1,.int .i64 y2,.int .i64 y3] 106)))
        have HLit:Hid (Rd ((w4.alloc (.cells #[.int .u64 y1,.int .i64 y2,.int .i64 y3] 106)).alloc (.cells #[.int .u64 y1,.int .i64 y2,.int .i64 y3] 106)) (some ⟨w4.heap.size+1,0,none⟩) (ec (y1,y2,y3))):=η26 (by
         have h:=Rd.lit (w4.alloc (.cells #[.int .u64 y1,.int .i64 y2,.int .i64 y3] 106)) #[.int .u64 y1,.int .i64 y2,.int .i64 y3] 106;rw[World.size_alloc] at h
         exact h)
        have HRw:Hid (((w4.alloc (.cells #[.int .u64 y1,.int .i64 y2,.int .i64 y3] 106)).alloc (.cells #[.int .u64 y1,.int .i64 y2,.int .i64 y3] 106)).ownsRow w.heap.size 106 3 (.slice va al vc) al (ecs acc)):=η26 (by have h:=HR5.out.row;rw[HAl.out] at h;exact h)
        go_wp2_with (at_builtin;refine q0R rfl (.tmp 68) (.tmp 70) 180 rfl w.heap.size 106 _ 3 24 Tryz.underlying180 Tryz.infoE (by decide) (by decide) _ al (ecs acc) rfl HRw.out _ 1 1 (ec (y1,y2,y3)) rfl rfl (fun h=>by cases h) HLit.out (by unfold ec;simp[Value.oneCell']) (by unfold maxLen;omega) (by omega) (by simp;omega) ?_;intro v2 w5 hown hgrow hat;obtain ⟨a2,k2,rfl⟩:=q0J hown;have HR6:=η26 (HR5.out.grow (acc':=acc++[(y1,y2,y3)]) (by rw[List.length_append,HAl.out,z2X];exact hown) hgrow (hat.imp id fun e=>e));clear hown hgrow hat)
        go_roundw
        case rel=>exact ⟨k+1,f,τ',acc++[(y1,y2,y3)],by omega,by simp;have:=HAl.out;omega,by go_num,HSc.out,HR6.out,.inl (by omega)⟩
        case measure=>simp[intOf];omega
       ·have hin2:inE x B (y1,y2,y3)=false:=by
         unfold inE;by_cases e:y1=x
         ·rw[decide_eq_true e,decide_eq_false (fun h=>hin ⟨e,h⟩)];rfl
         ·rw[decide_eq_false e];rfl
        rw[hin2,if_neg (by decide)] at hsc;have HSc:=η26 hsc;have b1:(y1 !=x)=true∨((y1 !=x)=false∧decide (B<y2)=true):=by
         by_cases e:y1=x
         ·exact .inr ⟨by simpa using e,decide_eq_true (by have:¬y2≤B:=fun h=>hin ⟨e,h⟩;omega)⟩
         ·exact .inl (by simpa using e)
        clear hsc hin hin2;rcases b1 with b1|⟨b1,b2⟩
        all_goals
         go_wp2_with fail;refine HEn.out.mono ?_;rintro e w4 ⟨rfl,hd4⟩;have HR4:=η26 ((HSt.out _ _ hd4).ext (q0B w4 (.cells #[.int .u64 y1,.int .i64 y2,.int .i64 y3] 106)));clear hd4;go_wp2_with fail;go_ret2;rw[HRg.out,←HSc.out];exact ⟨_,rfl,HR4.out⟩
      ·rw[if_pos hc] at hsc
       have hb:(c !=0)=true:=by simpa using hc
       have HSc:=η26 hsc;clear hsc hc;go_wp2_with fail;refine HEn.out.mono ?_;rintro e w4 ⟨rfl,hd4⟩;have HR4:=η26 ((HSt.out _ _ hd4).ext (q0B w4 (.cells #[.int .u64 y1,.int .i64 y2,.int .i64 y3] 106)));clear hd4;go_wp2_with fail;go_ret2;rw[HRg.out,←HSc.out];exact ⟨_,rfl,HR4.out.drop⟩
     ·have hd:decide ((k:Int)<(L.length:Int))=false:=decide_eq_false (by omega)
      rw[if_neg hlt] at hsc;have HSc:=η26 hsc;clear hsc hrv htb hd1 hd2 hd3 hk0;go_wp2_with fail;go_ret2;rw[HRg.out,←HSc.out];exact ⟨_,rfl,HRV.out⟩
   ·have HE:Hid (q2h σ n L may x a b=([],c,σ1)):=η26 (by rw[HM2.out,if_pos hc])
    have hb:(c !=0)=true:=by simpa using hc
    clear HM2 hc;go_wp2_with fail;go_ret2;rw[HE.out];exact ⟨_,rfl,RowV.nil HD3.out⟩
end
end
section
open Go.RowKit
theorem q0Q {fn:Func} {p u v:Tmp} {ty:TypeId} (h:fn.results=#[.cell p ty,.tmp u,.tmp v]) (tmps:Array Value) (P:Program) (w:World):
  (results fn tmps).run P w=
   ((asAddr (tmps.getD p undef)).run P w).andThen fun a w₁=>((loadVar ty a).run P w₁).andThen fun x w₂=> .ok (.tuple #[x,tmps.getD u undef,tmps.getD v undef]) w₂:=by
 simp only[results,h];simp[Sem.run_bind,Result.andThen]
theorem q8x (n:Int) (x:En): ∀(f:Nat) (σ:DM) (lo hi:Nat),lo≤hi→(q6F n x f σ lo hi).1≤hi
 |0,σ,lo,hi,h=>h
 | f + 1,σ,lo,hi,h=>by
  unfold q6F
  split
  ·split
   ·exact Nat.zero_le _
   ·split
    ·exact q8x n x f _ _ _ (by omega)
    ·exact Nat.le_trans (q8x n x f _ lo ((lo+hi)/2) (by omega)) (by omega)
  ·exact h
theorem z7j {L:List En} (h:q0q L) (σ:DM) (n:Int) (x:En):(q1e σ n L x).1≤L.length:=by
 have hn:=q7F x h;exact Nat.le_trans (q8x n x _ σ _ _ (by omega)) hn.2.2.2
def q3A (σ:DM) (n:Int) (L:List En) (may:Int→Bool) (h u:Int):En×Bool×Int×DM:=
 if min u 1073741824<0∨q3z L may h=false then (en0,false,0,σ)
 else if (q1e σ n L (h,min u 1073741824+1,0)).2.1≠0∨(q1e σ n L (h,min u 1073741824+1,0)).1=0 then (en0,false,(q1e σ n L (h,min u 1073741824+1,0)).2.1,(q1e σ n L (h,min u 1073741824+1,0)).2.2)
 else if (q1C (q1e σ n L (h,min u 1073741824+1,0)).2.2 n ((q1e σ n L (h,min u 1073741824+1,0)).1-1)).2.1≠0∨(q1C (q1e σ n L (h,min u 1073741824+1,0)).2.2 n ((q1e σ n L (h,min u 1073741824+1,0)).1-1)).1.1≠h
  then (en0,false,(q1C (q1e σ n L (h,min u 1073741824+1,0)).2.2 n ((q1e σ n L (h,min u 1073741824+1,0)).1-1)).2)
 else ((q1C (q1e σ n L (h,min u 1073741824+1,0)).2.2 n ((q1e σ n L (h,min u 1073741824+1,0)).1-1)).1,true,0,(q1C (q1e σ n L (h,min u 1073741824+1,0)).2.2 n ((q1e σ n L (h,min u 1073741824+1,0)).1-1)).2.2)
section
variable {w w' w1 w2:World} {t g:Nat} {n:Int} {L:List En} {may:Int→Bool} {T F V:Nat→Prop} {σ σ':DM}
theorem z4p (h:TbD w t g n L may T F σ) (x u:Int) (hu: -9223372036854775808≤u):
  Calls Tryz.prog 104 #[.pointer (some ⟨t,0,none⟩),.int .u64 x,.int .i64 u] w fun e w'=>e= .returned (.tuple #[enV (q3A σ n L may x u).1,.bool (q3A σ n L may x u).2.1,.int .i64 (q3A σ n L may x u).2.2.1])∧DkS w g F (q3A σ n L may x u).2.2.2 w':=by
 have hbk:=Blk.new w 106 #[.int .u64 0,.int .i64 0,.int .i64 0];have hx1:=q0B w (.cells #[.int .u64 0,.int .i64 0,.int .i64 0] 106);have HD0:=η26 h;have HX1:=η26 hx1;have hFlt:=h.d.Flt;have hFm:=z7j h.t.okL.sort σ n;have hlen:=h.t.okL.len
 replace h:=h.ext hx1
 have HD:=η26 h;have HN:=η26 (z0q h.t);have HMy:=η26 (z8W h.t x)
 have HM:Hid (∀A,A=min u 1073741824→ ∀r,q1e σ n L (x,A+1,0)=r→ ∀y,q1C r.2.2 n (r.1-1)=y→ ∀q,q3z L may x=q→
  q3A σ n L may x u=if A<0∨q=false then (en0,false,0,σ) else if r.2.1≠0∨r.1=0 then (en0,false,r.2.1,r.2.2) else if y.2.1≠0∨y.1.1≠x then (en0,false,y.2) else (y.1,true,0,y.2.2)):=η26 (by
   intro A hA r hr y hy q hq;subst hA hr hy hq
   rfl)
 obtain ⟨A,hA⟩: ∃A,min u 1073741824=A:=⟨_,rfl⟩
 have hA9: -9223372036854775808≤A∧A≤1073741824:=by omega
 have q1:IntKind.i64.wrap (A+1)=A+1:=by rw[IntKind.wrap_i64];omega
 have HF:=η26 (fun W (k:Ext (w.alloc (.cells #[.int .u64 0,.int .i64 0,.int .i64 0] 106)) W)=>z4U (h.ext k) (x,A+1,0));have hFm':=hFm (x,A+1,0);have HM1:=η26 (HM.out A hA.symm);obtain ⟨r,hr⟩: ∃r,q1e σ n L (x,A+1,0)=r:=⟨_,rfl⟩
 rw[hr] at HF hFm';have HM2:=η26 (HM1.out r hr);obtain ⟨q,hq⟩: ∃q,q3z L may x=q:=⟨_,rfl⟩
 obtain ⟨i0,c,σ1⟩:=r;obtain ⟨y,hy⟩: ∃y,q1C σ1 n (i0-1)=y:=⟨_,rfl⟩
 have HM3:=η26 (HM2.out y hy q hq);simp only at HM3 hFm' HF;rw[hq] at HMy;have HFlt:=η26 hFlt;have HBk:=η26 hbk;have HKF:Hid (∀τ W,DkS (w.alloc (.cells #[.int .u64 0,.int .i64 0,.int .i64 0] 106)) g F τ W→Blk W w.heap.size 106 #[.int .u64 0,.int .i64 0,.int .i64 0]):=η26 fun τ W hd=>hd.off.blk hbk fun hf=>by have:=hFlt _ hf;omega
 have HFin:Hid (∀τ V W,DkS (w.alloc (.cells #[.int .u64 0,.int .i64 0,.int .i64 0] 106)) g F τ V→OffS (fun i=>i=w.heap.size) V W→DkS w g F τ W):=η26 fun τ V W h1 h2=>by
  have s1:=h2.size;refine DkS.box (w1:=V) hx1 h1 hFlt s1 h2.os h2.tape h2.output fun i hi hn=>h2.block i hi fun e=>hn ?_
  subst e;exact ⟨Nat.le_refl _,by rw[World.size_alloc];omega⟩
 have HFrom:Hid (∀τ W W',Ext (w.alloc (.cells #[.int .u64 0,.int .i64 0,.int .i64 0] 106)) W→DkS W g F τ W'→DkS (w.alloc (.cells #[.int .u64 0,.int .i64 0,.int .i64 0] 106)) g F τ W'):=η26 fun τ W W' h1 h2=>DkS.from h.d h1 h2
 have HEn0:Hid (∀τ W,DkS (w.alloc (.cells #[.int .u64 0,.int .i64 0,.int .i64 0] 106)) g F τ W→TbD W t g n L may T (Gr F (w.alloc (.cells #[.int .u64 0,.int .i64 0,.int .i64 0] 106)) W) τ):=η26 fun τ W h1=>h.disk h1
 have HY:=η26 hy;clear h hr hq hy hFlt HM HM1 HM2 hFm;by_cases hA0:A<0
 ·have hd:decide (A<0)=true:=decide_eq_true hA0
  have HE:Hid (q3A σ n L may x u=(en0,false,0,σ)):=η26 (by rw[HM3.out,if_pos (.inl hA0)]);have r0:(w.alloc (.cells #[.int .u64 0,.int .i64 0,.int .i64 0] 106)).cell? ⟨w.heap.size,0,none⟩=some (Value.int .u64 0):=(HBk.out).cell 0;have r1:(w.alloc (.cells #[.int .u64 0,.int .i64 0,.int .i64 0] 106)).cell? ⟨w.heap.size,1,none⟩=some (Value.int .i64 0):=(HBk.out).cell 1;have r2:(w.alloc (.cells #[.int .u64 0,.int .i64 0,.int .i64 0] 106)).cell? ⟨w.heap.size,2,none⟩=some (Value.int .i64 0):=(HBk.out).cell 2;have z0:=(HBk.out).free 0;have z1:=(HBk.out).free 1;have z2:=(HBk.out).free 2;clear HM3 hA0 hbk;go_enter Tryz.func104,Tryz.ntmps104;go_wp2_with fail;refine HN.out.mono ?_;rintro e w1 ⟨rfl,rfl⟩;go_wp2_with fail
  (try simp only[Exit.inBlock,Exit.then])
  refine bodyPost_ret (v:= .tuple #[.agg #[.int .u64 (0),.int .i64 (0),.int .i64 (0)],.bool false,.int .i64 (0)]) (by rw[q0Q rfl];go_simp) rfl ?_;rw[HE.out];refine ⟨rfl,?_⟩
  first|exact HFin.out _ _ _ (DkS.refl HD.out.d) (OffS.refl _ _)|(refine HFin.out _ _ _ (DkS.refl HD.out.d) (OffS.trans (OffS.trans (OffS.set _ ?_ _ _) (OffS.set _ ?_ _ _)) (OffS.set _ ?_ _ _))<;>rfl)
 ·have hd :decide (A<0)=false:=decide_eq_false hA0
  cases q with
  | false=>
   have HE:Hid (q3A σ n L may x u=(en0,false,0,σ)):=η26 (by rw[HM3.out,if_pos (.inr rfl)]);clear HM3 hA0 hbk;go_enter Tryz.func104,Tryz.ntmps104;go_wp2_with fail;refine HN.out.mono ?_;rintro e w1 ⟨rfl,rfl⟩;go_wp2_with fail;refine HMy.out.mono ?_;rintro e w2 ⟨rfl,hb⟩;have HB2:=η26 hb;have r0:(w2).cell? ⟨w.heap.size,0,none⟩=some (Value.int .u64 0):=(HBk.out.ext hb).cell 0;have r1:(w2).cell? ⟨w.heap.size,1,none⟩=some (Value.int .i64 0):=(HBk.out.ext hb).cell 1;have r2:(w2).cell? ⟨w.heap.size,2,none⟩=some (Value.int .i64 0):=(HBk.out.ext hb).cell 2;have z0:=(HBk.out.ext hb).free 0;have z1:=(HBk.out.ext hb).free 1;have z2:=(HBk.out.ext hb).free 2;clear hb;go_wp2_with fail
   (try simp only[Exit.inBlock,Exit.then])
   refine bodyPost_ret (v:= .tuple #[.agg #[.int .u64 (0),.int .i64 (0),.int .i64 (0)],.bool false,.int .i64 (0)]) (by rw[q0Q rfl];go_simp) rfl ?_;rw[HE.out];refine ⟨rfl,?_⟩
   first|exact HFin.out _ _ _ ((DkS.refl HD.out.d).ext HB2.out) (OffS.refl _ _)|(refine HFin.out _ _ _ ((DkS.refl HD.out.d).ext HB2.out) (OffS.trans (OffS.trans (OffS.set _ ?_ _ _) (OffS.set _ ?_ _ _)) (OffS.set _ ?_ _ _))<;>rfl)
  | true =>
   have HM4:Hid (q3A σ n L may x u=if c≠0∨i0=0 then (en0,false,c,σ1) else if y.2.1≠0∨y.1.1≠x then (en0,false,y.2) else (y.1,true,0,y.2.2)):=η26 (by rw[HM3.out,if_neg (by simp[hA0])]);clear HM3 hA0 hbk;go_enter Tryz.func104,Tryz.ntmps104;go_wp2_with fail;refine HN.out.mono ?_;rintro e w1 ⟨rfl,rfl⟩;go_wp2_with fail;refine HMy.out.mono ?_;rintro e w2 ⟨rfl,hb⟩;have HB2:=η26 hb;clear hb;go_wp2_with fail;refine (HF.out _ HB2.out).mono ?_;rintro e w3 ⟨rfl,hd3⟩;have HD3:=η26 (HFrom.out _ _ _ HB2.out hd3);clear hd3 HF HMy HN;by_cases hci:c≠0∨i0=0
   ·have HE:Hid (q3A σ n L may x u=(en0,false,c,σ1)):=η26 (by rw[HM4.out,if_pos hci])
    have hk:=HKF.out _ _ HD3.out;have r0:(w3).cell? ⟨w.heap.size,0,none⟩=some (Value.int .u64 0):=(hk).cell 0;have r1:(w3).cell? ⟨w.heap.size,1,none⟩=some (Value.int .i64 0):=(hk).cell 1;have r2:(w3).cell? ⟨w.heap.size,2,none⟩=some (Value.int .i64 0):=(hk).cell 2;have z0:=(hk).free 0;have z1:=(hk).free 1;have z2:=(hk).free 2;have hb:(c !=0)=true∨((c !=0)=false∧((i0:Int)==0)=true):=by
     by_cases e:c=0
     ·exact .inr ⟨by simpa using e,by rcases hci with h|h;exact absurd e h;rw[h];rfl⟩
     ·exact .inl (by simpa using e)
    clear HM4 hci hk;rcases hb with hb|⟨hb,hb2⟩
    all_goals
     go_wp2_with fail
     (try simp only[Exit.inBlock,Exit.then])
     refine bodyPost_ret (v:= .tuple #[.agg #[.int .u64 (0),.int .i64 (0),.int .i64 (0)],.bool false,.int .i64 (c)]) (by rw[q0Q rfl];go_simp) rfl ?_;rw[HE.out];refine ⟨rfl,?_⟩
     first|exact HFin.out _ _ _ HD3.out (OffS.refl _ _)|(refine HFin.out _ _ _ HD3.out (OffS.trans (OffS.trans (OffS.set _ ?_ _ _) (OffS.set _ ?_ _ _)) (OffS.set _ ?_ _ _))<;>rfl)
   ·have hc0:c=0:=by by_cases e:c=0;exact e;exact absurd (.inl e) hci
    have hi0:i0≠0:=fun e=>hci (.inr e)
    subst hc0;have b2:((i0:Int)==0)=false:=by simp;exact hi0
    obtain ⟨j,hj⟩: ∃j,i0-1=j:=⟨_,rfl⟩
    have q2:IntKind.i64.wrap ((i0:Int)-1)=(j:Int):=by rw[IntKind.wrap_i64];omega
    have HM5:Hid (q3A σ n L may x u=if y.2.1≠0∨y.1.1≠x then (en0,false,y.2) else (y.1,true,0,y.2.2)):=η26 (by rw[HM4.out,if_neg hci]);have HEn:=η26 (z1b (HEn0.out _ _ HD3.out) j (by omega));have hyy:q1C σ1 n j=y:=by rw[←hj];exact HY.out
    rw[hyy] at HEn;obtain ⟨⟨y1,y2,y3⟩,cy,σ2⟩:=y;have HEn:Hid (Calls Tryz.prog 164 #[.pointer (some ⟨t,0,none⟩),.int .i64 (j:Int)] w3 fun e w'=>e= .returned (.tuple #[.agg #[.int .u64 y1,.int .i64 y2,.int .i64 y3],.int .i64 cy])∧DkS w3 g (Gr F (w.alloc (.cells #[.int .u64 0,.int .i64 0,.int .i64 0] 106)) w3) σ2 w'):=HEn;simp only at HM5;clear HM4 hci hi0 hj hyy HY;go_wp2_with fail;refine HEn.out.mono ?_;rintro e w4 ⟨rfl,hd4⟩;have HD4:=η26 (HD3.out.trans hd4);have HD5:=η26 (HD4.out.ext (q0B w4 (.cells #[.int .u64 y1,.int .i64 y2,.int .i64 y3] 106)));have hk:=HKF.out _ _ HD5.out;have r0:(w4.alloc (.cells #[.int .u64 y1,.int .i64 y2,.int .i64 y3] 106)).cell? ⟨w.heap.size,0,none⟩=some (Value.int .u64 0):=(hk).cell 0;have r1:(w4.alloc (.cells #[.int .u64 y1,.int .i64 y2,.int .i64 y3] 106)).cell? ⟨w.heap.size,1,none⟩=some (Value.int .i64 0):=(hk).cell 1;have r2:(w4.alloc (.cells #[.int .u64 y1,.int .i64 y2,.int .i64 y3] 106)).cell? ⟨w.heap.size,2,none⟩=some (Value.int .i64 0):=(hk).cell 2
    have z0:=(hk).free 0;have z1:=(hk).free 1;have z2:=(hk).free 2;clear hd4 hk;by_cases hcy:cy≠0∨y1≠x
    ·have HE:Hid (q3A σ n L may x u=(en0,false,cy,σ2)):=η26 (by rw[HM5.out,if_pos hcy])
     have hb:(cy !=0)=true∨((cy !=0)=false∧(y1 !=x)=true):=by
      by_cases e:cy=0
      ·exact .inr ⟨by simpa using e,by rcases hcy with h|h;exact absurd e h;simpa using h⟩
      ·exact .inl (by simpa using e)
     clear HM5 hcy;rcases hb with hb|⟨hb,hb2⟩
     all_goals
      go_wp2_with fail
      (try simp only[Exit.inBlock,Exit.then])
      refine bodyPost_ret (v:= .tuple #[.agg #[.int .u64 (0),.int .i64 (0),.int .i64 (0)],.bool false,.int .i64 (cy)]) (by rw[q0Q rfl];go_simp) rfl ?_;rw[HE.out];refine ⟨rfl,?_⟩
      first|exact HFin.out _ _ _ HD5.out (OffS.refl _ _)|(refine HFin.out _ _ _ HD5.out (OffS.trans (OffS.trans (OffS.set _ ?_ _ _) (OffS.set _ ?_ _ _)) (OffS.set _ ?_ _ _))<;>rfl)
    ·have e1:cy=0:=by by_cases e:cy=0;exact e;exact absurd (.inl e) hcy
     have e2:y1=x:=by by_cases e:y1=x;exact e;exact absurd (.inr e) hcy
     have HE:Hid (q3A σ n L may x u=((y1,y2,y3),true,0,σ2)):=η26 (by rw[HM5.out,if_neg hcy]);subst e1;have b3:(y1 !=x)=false:=by simpa using e2
     clear HM5 hcy e2;go_wp2_with fail
     (try simp only[Exit.inBlock,Exit.then])
     refine bodyPost_ret (v:= .tuple #[.agg #[.int .u64 (y1),.int .i64 (y2),.int .i64 (y3)],.bool true,.int .i64 (0)]) (by rw[q0Q rfl];go_simp) rfl ?_;rw[HE.out];refine ⟨rfl,?_⟩
     first|exact HFin.out _ _ _ HD5.out (OffS.refl _ _)|(refine HFin.out _ _ _ HD5.out (OffS.trans (OffS.trans (OffS.set _ ?_ _ _) (OffS.set _ ?_ _ _)) (OffS.set _ ?_ _ _))<;>rfl)
end
end
section
open Go.RowKit
section
variable {w w' w1 w2:World} {t g:Nat} {n:Int} {L:List En} {may:Int→Bool} {T F V:Nat→Prop} {σ σ':DM}
end
end
section
open Go.RowKit
def tellN :Nat→DM→DM
 |0,σ=>σ
 |c+1,σ=>tellN c (q2N σ)
theorem q1i (c:Nat) (σ:DM):tellN (c+1) σ=tellN c (q2N σ):=rfl
theorem q3B (a b:Nat) (σ:DM):tellN a (tellN b σ)=tellN (b+a) σ:=by
 induction b generalizing σ with
 |zero=>simp[tellN]
 |succ b ih=>rw[q1i,ih,show b+1+a=(b+a)+1 by omega,q1i]
theorem q9S (a:Nat) (σ:DM):q2N (tellN a σ)=tellN (a+1) σ:=by
 have:=q3B 1 a σ
 simpa [tellN] using this
theorem z9h (c:Nat): ∀σ:DM,(tellN c σ).L=σ.L:=by induction c with|zero=>intro σ;rfl|succ c ih=>intro σ;rw[q1i,ih];rfl
theorem z3N (c:Nat): ∀σ:DM,(tellN c σ).down=σ.down:=by induction c with|zero=>intro σ;rfl|succ c ih=>intro σ;rw[q1i,ih];rfl
structure Wl (σ:DM) (n:Int) (L:List En):Prop where
 up:σ.down=false
 file: ∃f,q0H FM.nm (q0G 116 n) σ.L=some f∧f.da=q8M L
theorem Wl.tell {σ:DM} {n:Int} {L:List En} (h:Wl σ n L):Wl (q2N σ) n L:=⟨h.up,h.file⟩
theorem Wl.tellN {σ:DM} {n:Int} {L:List En} (h:Wl σ n L) (c:Nat):Wl (tellN c σ) n L:=⟨by rw[z3N];exact h.up,by rw[z9h];exact h.file⟩
theorem q7R {σ:DM} {n:Int} {L:List En} (h:Wl σ n L) (ho: ∀e∈L,q3J e=true) {i:Nat} (hi:i<L.length):q1C σ n i=(L[i],0,q2N σ):=by
 obtain ⟨f,hf,hd⟩:=h.file;have hl:=q4u L;have hr:q1b σ (q0G 116 n) (8+24*(i:Int)) 24=(((q8M L).drop (8+24*i)).take 24,0,q2N σ):=by
  unfold q1b;rw[if_neg (by rw[h.up];decide),hf];simp only;rw[hd,if_pos (by rw[hl];omega)];have e1:(8+24*(i:Int)).toNat=8+24*i:=by omega
  rw[e1]
  rfl
 unfold q1C;rw[hr];simp only;rw[if_neg (fun h=>h rfl),z9b ho hi]
theorem q6S {n:Int} {L:List En} (hs:q0q L) (ho: ∀e∈L,q3J e=true) (x:En): ∀(c f:Nat) (σ:DM) (lo hi:Nat),Wl σ n L→lo≤lbE L x→lbE L x≤hi→hi≤L.length→hi-lo<2^c→c≤f→
  ∃k,k≤c∧q6F n x f σ lo hi=(lbE L x,0,tellN k σ)
 | 0,f,σ,lo,hi,hw,h1,h2,h3,h4,h5=>by
  have:lo=hi:=by simp at h4;omega
  subst this;have e:lo=lbE L x:=by omega
  refine ⟨0,Nat.le_refl _,?_⟩
  cases f with
  |zero=>rw[q6F,e];rfl
  |succ f=>rw[q6F,if_neg (by omega),e];rfl
 | c + 1,f,σ,lo,hi,hw,h1,h2,h3,h4,h5=>by
  obtain ⟨f,rfl⟩: ∃f',f=f'+1:=⟨f-1,by omega⟩
  rw[Nat.pow_succ] at h4;unfold q6F;by_cases hlt:lo<hi
  ·rw [if_pos hlt]
   have hm:(lo+hi)/2<L.length:=by omega
   rw[q7R hw ho hm];simp only;rw[if_neg (fun h=>h rfl)];have hlb:=q3Y x hs (i:=(lo+hi)/2) (List.getElem?_eq_getElem hm);rw[hlb];by_cases hl:(lo+hi)/2<lbE L x
   ·rw[decide_eq_true hl,if_pos rfl]
    obtain ⟨k,hk,e⟩:=q6S hs ho x c f (q2N σ) ((lo+hi)/2+1) hi hw.tell (by omega) h2 h3 (by omega) (by omega);exact ⟨k+1,by omega,by rw[e,q1i]⟩
   ·rw[decide_eq_false hl,if_neg (by decide)]
    obtain ⟨k,hk,e⟩:=q6S hs ho x c f (q2N σ) lo ((lo+hi)/2) hw.tell h1 (by omega) (by omega) (by omega) (by omega);exact ⟨k+1,by omega,by rw[e,q1i]⟩
  ·rw[if_neg hlt]
   exact ⟨0,by omega,by rw[show lo=lbE L x by omega];rfl⟩
theorem z2c {σ:DM} {n:Int} {L:List En} (h:Wl σ n L) (hs:q0q L) (ho: ∀e∈L,q3J e=true) (x:En): ∃k,k≤3∧q1e σ n L x=(lbE L x,0,tellN k σ):=by
 obtain ⟨h1,h2,h3,h4⟩:=q7F x hs;unfold q1e;generalize q0n L.length x 0 (q2Y L)=z at*;by_cases hl:L.length+1<3
 ·obtain ⟨k,hk,e⟩:=q6S hs ho x (L.length+1) (L.length+1) σ z.1 z.2 h h1 h2 h4 (by
   have:L.length+1<2^(L.length+1):=Nat.lt_two_pow_self
   omega) (Nat.le_refl _)
  exact ⟨k,by omega,e⟩
 ·exact q6S hs ho x 3 (L.length+1) σ z.1 z.2 h h1 h2 h4 (by omega) (by omega)
theorem z2T {n:Int} {L:List En} (ho: ∀e∈L,q3J e=true) (h b:Int): ∀(f:Nat) (σ:DM) (i:Nat) (acc:List En),Wl σ n L→L.length-i<f→
  ∃k,k≤((L.drop i).takeWhile (inE h b)).length+1∧q8w n L h b f σ i acc=(acc++(L.drop i).takeWhile (inE h b),0,tellN k σ)
 |0,σ,i,acc,hw,hf=>by omega
 | f + 1,σ,i,acc,hw,hf=>by
  unfold q8w;by_cases hi:i<L.length
  ·rw [if_pos hi,q7R hw ho hi]
   simp only;rw[if_neg (fun h=>h rfl),List.drop_eq_getElem_cons hi,List.takeWhile_cons];by_cases hin:inE h b L[i]=true
   ·rw[if_pos hin,if_pos hin]
    obtain ⟨k,hk,e⟩:=z2T ho h b f (q2N σ) (i+1) (acc++[L[i]]) hw.tell (by omega);exact ⟨k+1,by rw[List.length_cons];omega,by rw[e,q1i,List.append_assoc];rfl⟩
   ·rw[if_neg hin,if_neg hin]
    exact ⟨1,by simp,by rw[List.append_nil];rfl⟩
  ·rw[if_neg hi,List.drop_of_length_le (by omega)]
   exact ⟨0,by simp,by rw[List.takeWhile_nil,List.append_nil];rfl⟩
theorem z4l {L:List En} {may:Int→Bool} (ht: ∀x∈L,may x.1=true) {h:Int} (hm:q3z L may h=false): ∀x∈L,x.1≠h:=fun x hx e=>by
 unfold q3z at hm;have h1:=ht x hx;rw[e] at h1;rw[h1,Bool.and_true] at hm;have:0<L.length:=List.length_pos_of_mem hx;rw[decide_eq_true this] at hm
 cases hm
theorem z5U {σ:DM} {n:Int} {L:List En} {may:Int→Bool} (h:Wl σ n L) (hs:q0q L) (ho: ∀e∈L,q3J e=true) (ht: ∀x∈L,may x.1=true) (x a b:Int):
  ∃k,k≤(q0m L x (max a 0) (min b 1073741824)).length+4∧(q3z L may x=false→k=0)∧q2h σ n L may x a b=(q0m L x (max a 0) (min b 1073741824),0,tellN k σ):=by
 unfold q2h;by_cases hc:min b 1073741824<max a 0∨q3z L may x=false
 ·rw [if_pos hc]
  have e:q0m L x (max a 0) (min b 1073741824)=[]:=by
   unfold q0m;refine List.filter_eq_nil_iff.2 fun y hy=>?_
   simp only[Bool.and_eq_true,decide_eq_true_eq];rintro ⟨⟨h1,h2⟩,h3⟩;rcases hc with hc|hc
   ·omega
   ·exact z4l ht hc y hy h1
  rw[e];exact ⟨0,by simp,fun _=>rfl,rfl⟩
 ·rw[if_neg hc]
  obtain ⟨k,hk,e⟩:=z2c h hs ho (x,max a 0,0);rw[e];simp only;rw[if_neg (fun h=>h rfl)];obtain ⟨k2,hk2,e2⟩:=z2T ho x (min b 1073741824) (L.length+1) (tellN k σ) (lbE L (x,max a 0,0)) [] (h.tellN k) (by omega);rw[e2,←q3a hs ho,List.nil_append,q3B];rw[←q3a hs ho] at hk2;exact ⟨k+k2,by omega,fun hm=>absurd (.inr hm) hc,rfl⟩
end
section
open Go.RowKit
theorem z8L {σ:DM} {n:Int} {L:List En} {may:Int→Bool} (h:Wl σ n L) (hs:q0q L) (ho: ∀e∈L,q3J e=true) (ht: ∀x∈L,may x.1=true) (x u:Int):
  ∃ k,k≤5∧(q3z L may x=false→k=0)∧q3A σ n L may x u=match (if u<0 then none else q2p L x (min u 1073741824)) with
   |none=>(en0,false,0,tellN k σ)
   |some y=>(y,true,0,tellN k σ):=by
 unfold q3A;by_cases hc:min u 1073741824<0∨q3z L may x=false
 ·rw [if_pos hc]
  refine ⟨0,by omega,fun _=>rfl,?_⟩;by_cases hu:u<0
  ·rw[if_pos hu];rfl
  ·rw [if_neg hu]
   have hm:q3z L may x=false:=by rcases hc with hc|hc;omega;exact hc
   have e:q2p L x (min u 1073741824)=none:=by
    unfold q2p;rw[List.filter_eq_nil_iff.2 fun y hy=>?_]
    ·rfl
    ·unfold inE
     rw[decide_eq_false (z4l ht hm y hy)];simp
   rw[e];rfl
 ·rw [if_neg hc]
  have hu:¬u<0:=fun h=>hc (.inl (by omega))
  rw[if_neg hu];obtain ⟨k,hk,e⟩:=z2c h hs ho (x,min u 1073741824+1,0);have hla:=z6Q (l:=L) (h:=x) (t:=min u 1073741824) hs ho;have hle:=q4M L (x,min u 1073741824+1,0);rw[e];simp only;generalize lbE L (x,min u 1073741824+1,0)=lb at*;by_cases hl0:lb=0
  ·rw[if_pos hl0] at hla
   rw[if_pos (.inr hl0),hla];exact ⟨k,by omega,fun hm=>absurd (.inr hm) hc,rfl⟩
  ·rw [if_neg hl0] at hla
   rw[if_neg (by simp[hl0])];have hi:lb-1<L.length:=by omega
   rw[List.getElem?_eq_getElem hi] at hla;rw[q7R (h.tellN k) ho hi];simp only at hla⊢;by_cases hx:L[lb-1].1=x
   ·rw[if_pos hx] at hla
    rw[if_neg (by simp[hx]),hla];exact ⟨k+1,by omega,fun hm=>absurd (.inr hm) hc,by simp only;rw[q9S]⟩
   ·rw[if_neg hx] at hla
    rw[if_pos (.inr hx),hla];exact ⟨k+1,by omega,fun hm=>absurd (.inr hm) hc,by simp only;rw[q9S]⟩
theorem z0O {σ:DM} {nm:List UInt8} {f:FM} (hup:σ.down=false) (hf:q0H FM.nm nm σ.L=some f):q0h σ nm=(f.da,0,q2N σ):=by
 have hs:q1W σ nm=((f.da.length:Int),0):=by unfold q1W;rw[if_neg (by rw[hup];decide),hf]
 unfold q0h;rw[hs];simp only;rw[if_neg (fun h=>h rfl)];unfold q1b;rw[if_neg (by rw[hup];decide),hf];simp only;rw[if_pos (by omega)];have e1:((f.da.length:Int)).toNat=f.da.length:=by omega
 rw[e1];simp
theorem z6S {σ:DM} {nm:List UInt8} (hup:σ.down=false) (hf:q0H FM.nm nm σ.L=none):q0h σ nm=([],4,σ):=by
 have hs:q1W σ nm=(0,4):=by unfold q1W;rw[if_neg (by rw[hup];decide),hf]
 unfold q0h;rw[hs];simp only;rw[if_pos (by decide)]
theorem z5g {σ:DM} (nm:List UInt8) (hup:σ.down=false): ∃s c k,q0h σ nm=(s,c,tellN k σ)∧c≠61∧k≤1:=by
 cases hf:q0H FM.nm nm σ.L with
 |none=>exact ⟨_,_,0,z6S hup hf,by decide,by omega⟩
 |some f=>exact ⟨_,_,1,z0O hup hf,by decide,by omega⟩
theorem z7J {σ:DM} {n:Int} {L:List En} (h:Wl σ n L) (hs:q0q L) (ho: ∀e∈L,q3J e=true) (hl:L.length<4294967296): ∃k,k≤2∧q5X σ n=(some L,0,tellN k σ):=by
 obtain ⟨f,hf,hd⟩:=h.file;unfold q5X;rw[z0O h.up hf];simp only;rw[if_neg (fun h=>h rfl),hd,z8E hs ho hl];obtain ⟨s,c,k,e,hc,hk⟩:=z5g (σ:=q2N σ) (q0G 98 n) h.up;rw[e];simp only;rw[if_neg hc];exact ⟨k+1,by omega,by rw[q1i]⟩
theorem Pl.wl {σ:DM} {c s:Int} {l:List (List UInt8×List UInt8)} {n:Int} {L:List En} {x:List UInt8} (h:Pl σ c s l) (hf:q0H Prod.fst (q0G 116 n) l=some (x,q8M L)):Wl σ n L:=by
 obtain ⟨f,h1,h2⟩:=h.find_some hf;refine ⟨h.up,f,h1,?_⟩;have:=congrArg Prod.snd h2;exact this
end
end Go.Proofs.YthdekbmdkpcooaaGreatDoor
