/- The shelf's contract of slices.Reverse at []api.Told at this seat, in plain words. -/
import Derived.Shelf.SlicesQ.Reverse
import Derived.Ground.SlgnProg
import Derived.Test.YthdekbmdkpcooaaGreatDoorG44CT
set_option linter.unusedVariables false
set_option linter.unusedSimpArgs false
set_option maxRecDepth 100000
set_option maxHeartbeats 6400000
namespace Go.Proofs
open Go.Shelf
def Tryz.reverseTold_ren :Go.Shelf.Ren:=⟨fun|35=>158|n=>n,fun|22=>35|23=>87|3=>3|4=>4|0=>0|n=>n,fun|n=>n⟩
theorem Tryz.reverseTold :Go.Proofs.SlLaysE0.n35 Tryz.prog Tryz.reverseTold_ren:={
 mixed:=by kernel_rfl
 f35:=⟨Tryz.f158.name,by decide,Tryz.func158.trans (congrArg some (by kernel_rfl))⟩
 t0:=Tryz.underlying0
 a0:=Tryz.isAgg0
 z0:=Tryz.sizeOf0
 v0:=Tryz.zeroValue0
 t3:=Tryz.underlying3
 a3:=Tryz.isAgg3
 z3:=Tryz.sizeOf3
 v3:=Tryz.zeroValue3
 t4:=Tryz.underlying4
 a4:=Tryz.isAgg4
 z4:=Tryz.sizeOf4
 v4:=Tryz.zeroValue4
 t22:=Tryz.underlying35
 a22:=Tryz.isAgg35
 z22:=Tryz.sizeOf35
 v22:=Tryz.zeroValue35}
end Go.Proofs
namespace Go.Proofs.YthdekbmdkpcooaaGreatDoor
section
open Go.RowKit Go.Sort Go.Lib
theorem z1H {w:World} {base k:Nat} {e:TypeId} {g n cap q:Nat} {cs:List Value} {F:Array Value} (h:w.ownsRow base e k (.slice (some ⟨g,0,none⟩) n cap) n cs) (hF:F.size=n*k):
  (putRow id (Sort.ahead w q) g 0 F).ownsRow base e k (.slice (some ⟨g,0,none⟩) n cap) n F.toList:=by
 rcases h.2 with ⟨e0,_⟩|⟨g',cap',cur,e0,hb,hg,hn,hm,hs,ht⟩
 ·cases e0
 ·injection e0 with e1 _ e3
  injection e1 with e1;injection e1 with e1;subst e1;subst e3;have hnk:n*k≤cap*k:=Nat.mul_le_mul_right k hn;refine ⟨by simpa using hF,.inr ⟨g,cap,putCells id 0 F cur,rfl,hb,?_,hn,hm,by simpa [putCells] using hs,?_⟩⟩
  ·simp[putRow,mapBlock,Sort.ahead,Array.getElem?_modify,hg,onCells]
  ·apply List.ext_getElem?
   intro j;rw[List.getElem?_take,Array.getElem?_toList,Array.getElem?_toList];by_cases hj:j<n*k
   ·have hjc:j<cur.size:=by omega
    simp only[if_pos hj,putCells,Array.getElem?_mapIdx,Array.getElem?_eq_getElem hjc,Option.map_some];rw[if_pos (by omega),Array.getElem?_eq_getElem (by omega)];simp[getElem!_pos,show j<F.size by omega]
   ·rw[if_neg hj,Array.getElem?_eq_none (by omega)]
theorem q8c {w:World} {base k:Nat} {e:TypeId} {g n cap:Nat} {cs:List Value} (h:w.ownsRow base e k (.slice (some ⟨g,0,none⟩) n cap) n cs):Holds id w g 0 cs.toArray:=by
 have hl:=h.1;rcases h.2 with ⟨e0,_⟩|⟨g',cap',cur,e0,hb,hg,hn,hm,hs,ht⟩
 ·cases e0
 ·injection e0 with e1 _ e3
  injection e1 with e1;injection e1 with e1;subst e1;subst e3;have hnk:n*k≤cap*k:=Nat.mul_le_mul_right k hn;intro j hj;have hj':j<n*k:=by simpa [hl] using hj
  refine ⟨?_,by simp[World.frozen?,hg]⟩;have e1:(cur.toList.take (n*k))[j]? =cs[j]? :=by rw[ht]
  rw[List.getElem?_take,if_pos hj',Array.getElem?_toList] at e1;simp only[World.cell?,hg,Nat.zero_add];simp only[Option.isSome_none,Bool.false_eq_true,if_false];rw[e1,List.getElem?_eq_getElem (by omega)];simp[getElem!_pos,show j<cs.length by omega]
instance : Inhabited To:=⟨to0⟩
theorem z0Z (T:List To):flatK toc 5 T.toArray=(q4i T).toArray:=by
 have hsz:(flatK toc 5 T.toArray).size=T.length*5:=by simp[flatK]
 refine ext_get! (by rw[hsz];simp[q6k]) fun t ht=>?_
 rw[hsz] at ht;rw[get_flatK _ _ _ _ (by simpa using ht)];have h1:=q4t T (t/5) (t % 5) (by omega) (Nat.mod_lt _ (by decide));rw[show t/5*5+t % 5=t by omega] at h1;have h2:t/5<T.length:=by omega
 rw[show (T.toArray)[t/5]! =T.getD (t/5) to0 by simp[getElem!_pos,h2,List.getD_eq_getElem?_getD]];rw[show (q4i T).toArray[t]! =((q4i T)[t]?).getD default by simp only[getElem!_def,List.getElem?_toArray];cases (q4i T)[t]? <;>rfl,h1];simp only[getElem!_def]
 cases (toc (T.getD (t/5) to0))[t % 5]? <;>rfl
theorem z6K {w:World} {base:Nat} {v:Value} {T:List To} (h:w.ownsRow base 87 5 v T.length (q4i T)) (hn:T.length≤9223372036854775807):
  Calls Tryz.prog 158 #[v] w fun e w'=>e= .returned (.tuple #[])∧w'.ownsRow base 87 5 v T.length (q4i T.reverse)∧(∀w0,Below w0.heap.size w0 w→w0.heap.size≤base→Below w0.heap.size w0 w')∧
   (∀i,v.ownBlock≠some i→w'.heap[i]? =w.heap[i]?)∧w.heap.size≤w'.heap.size:=by
 rcases h.2 with ⟨rfl,h0⟩|⟨g,cap,cur,rfl,hb,hg,h1,h2,h3,h4⟩
 ·have hT:T=[]:=List.length_eq_zero_iff.1 h0
  subst hT;refine (AnyQ.slices_Reverse_empty Tryz.reverseTold none 0 w).mono ?_;rintro e w' ⟨rfl,rfl⟩;exact ⟨rfl,h,fun _ hh _=>hh,fun _ _=>rfl,Nat.le_refl _⟩
 ·have hr:=AnyQ.slices_Reverse Tryz.reverseTold 5 Tryz.isAgg87 Tryz.sizeOf87 toc (fun _=>rfl) (fun x u hu=>z8F [x] u (by simpa [q4i] using hu)) g 0 cap T.toArray w (by unfold HoldsK;rw[z0Z];exact q8c h) (by simpa using hn)
  have e0:T.toArray.size=T.length:=by simp
  rw[e0] at hr;refine hr.mono ?_;rintro e w' ⟨rfl,q,rfl⟩;have e1:putRowK toc 5 (Sort.ahead w q) g 0 T.toArray.reverse=putRow id (Sort.ahead w q) g 0 (q4i T.reverse).toArray:=by
   unfold putRowK;rw[show T.toArray.reverse=T.reverse.toArray by simp,z0Z]
  rw[e1];refine ⟨rfl,?_,fun w0 hh hle=>below_putRow hh (by omega),fun i hi=>?_,?_⟩
  ·have:=z1H (q:=q) (F:=(q4i T.reverse).toArray) h (by simp[q6k])
   simpa using this
  ·have hne:g≠i:=fun e=>hi (by rw[e];rfl)
   simp[putRow,mapBlock,Sort.ahead,Array.getElem?_modify,hne]
  ·simp[Sort.ahead]
def z6a (bs:List Bt) (str:List UInt8) (fr ct:Int):List To:=if q3G str fr ct=0 then (z0T (q8K bs str) fr ct).reverse else []
section
variable {wb w W W1 W2:World} {g gl gs gx rate:Nat} {m:Man} {ws:List En} {c s sd:Int} {u cnt:Nat} {B:List En} {C:Cks} {P:Pbs} {sure:Int} {K K':Nat→Prop}
theorem z1L (h:StoP wb w g gs gl gx rate m ws sd c s u cnt B C sure P K) (str:List UInt8) (hs:str.length≤4611686018427387903) (fr ct:Int) (hf1:fr≤9223372036854775807) (hc1:ct≤9223372036854775807) (hl:B.length≤10000) (hev:(q0u (q1k P) str).length≤10000):
  Calls Tryz.prog 101 #[.pointer (some ⟨gs,0,none⟩),.string ⟨str.toArray⟩,.int .i64 fr,.int .i64 ct] w (ToldR wb w g gs gl gx rate m ws sd c s u cnt B C sure P K (z6a (q1k P) str fr ct) (q3G str fr ct)):=by
 have HPg:=Lib.hid (z4x h.b str hs fr ct);have HH:=Lib.hid h;obtain ⟨R,hR⟩: ∃R,z6a (q1k P) str fr ct=R:=⟨_,rfl⟩
 rw[hR];unfold z6a at hR;by_cases hz:q3G str fr ct=0
 ·have hfc:0≤fr∧1≤ct:=by
   unfold q3G at hz
   split at hz
   ·cases hz
   ·omega
  rw[if_pos hz] at hR;rw[hz] at HPg⊢;have q1:IntKind.i64.wrap (fr-ct)=fr-ct:=by rw[IntKind.wrap_i64];omega
  have q2:IntKind.i64.wrap (fr-ct+1)=fr-ct+1:=by rw[IntKind.wrap_i64];omega
  have hpd:=z4S (q1k P) str (f:=fr) (c:=ct) hfc.1 hfc.2 (by omega);obtain ⟨R0,hR0⟩: ∃R0,z0T (q8K (q1k P) str) fr ct=R0:=⟨_,rfl⟩
  rw[hR0] at hpd hR;have hR0l:R0.length≤10000:=by
   rw[←hpd];refine Nat.le_trans (List.length_filter_le _ _) ?_;rw[q3h];exact hev
  have HB:=Lib.hid (fun W (k:Ext w W)=>q6d (h.grow k) str hs (fr-ct+1) fr hl hpd);have HRe:Hid (R0.reverse=R):=Lib.hid hR;clear hz hR h hpd hR0;go_enter Tryz.func101,Tryz.ntmps101;go_wp2_with fail;refine HPg.out.mono ?_;rintro e w1 ⟨rfl,hx⟩;have HX:=Lib.hid hx;clear hx;go_wp2_with fail;refine (HB.out _ HX.out).mono ?_;rintro e w2 ⟨v,rfl,hh,hst,hrow,hdj⟩;obtain ⟨ra,rc,rfl⟩:=q0J hrow;have HRv:=Lib.hid (z6K hrow (by omega));have HH2:=Lib.hid hh;have HS2:=Lib.hid ((HH.out.kExt HX.out).trans hst);have HDj:=Lib.hid hdj;clear hh hst hrow hdj HB;go_wp2_with fail;refine HRv.out.mono ?_;rintro e w3 ⟨rfl,hrow,hbl,hsame,hsz⟩;rw[HRe.out] at hrow;have hlen:R.length=R0.length:=by rw[←HRe.out,List.length_reverse]
  have HF:Hid (ToldR wb w g gs gl gx rate m ws sd c s u cnt B C sure P K R 0 (.returned (.tuple #[.slice ra R0.length rc,.int .i64 0])) w3):=Lib.hid
   ⟨_,rfl,HH2.out.sideM hsz (hbl wb HH2.out.base (Nat.le_refl _)) (fun i hi hn=>hsame i fun e=>hn (.inr e)) fun i hi=> .inl hi,HS2.out.trans fun i hi=>hsame i (HDj.out i hi),by rw[hlen];exact hrow,HDj.out⟩
  clear hrow hbl hsame hsz HRv;go_wp2_with fail;go_ret2;exact HF.out
 ·rw [if_neg hz] at hR
  subst hR;have hz2:q3G str fr ct=2:=by
   unfold q3G at hz⊢
   split at hz
   ·rename_i h1;rw[if_pos h1]
   ·exact absurd rfl hz
  rw[hz2] at HPg⊢;clear hz hz2 h;go_enter Tryz.func101,Tryz.ntmps101;go_wp2_with fail;refine HPg.out.mono ?_;rintro e w1 ⟨rfl,hx⟩;have HX:=Lib.hid hx;clear hx;go_wp2_with fail;go_ret2;exact ToldR.nil (HH.out.grow HX.out) (HH.out.kExt HX.out) 2
end
end
section
open Go.RowKit
theorem z0R : ∀(C:Cks) (b:Nat),(∀ps∈C,ps≠[])→C.length≤(q0y b C).length
 |[],_,_=>Nat.le_refl _
 | ps::t,b,h=>by
  have h1:=z0R t (b+4096) fun q hq=>h q (.tail _ hq)
  have h2:0<ps.length:=List.length_pos_iff.2 (h ps (.head _));rw[q0y,List.length_append,q4O,List.length_cons];omega
theorem z5N {bs:List Bt} (h:okBs bs):(tos bs).length≤8*bs.length:=by
 induction bs using q8q with
 |h0=>exact Nat.le_refl _
 | h1 l b ih=>
  obtain ⟨h1,h2,_⟩:=okBs_snoc.1 h;have h3:=(q1B h2.1).2.2.2.1;have h4:=ih h1;rw[q4V,q9A,List.length_append,q3e,List.length_append,List.length_singleton];omega
def SK (wb W:World) (g gs rate:Nat) (sd c s:Int) (u n:Nat) (bs:List Bt) (K:Nat→Prop):Prop:=
 ∃gl gx m ws B C sure P,StoP wb W g gs gl gx rate m ws sd c s u (40+3*n) B C sure P K∧q1k P=bs∧m.nx≤n∧bs.length≤n∧0≤sd∧sd<18446744073709551616
def SQ (wb W:World) (g:Nat) (sd c s:Int) (u n:Nat) (bs:List Bt) (K:Nat→Prop):Prop:=
 ∃m B C P,DKQ wb W g m c s u (40+3*n) B C K∧y1v sd m B C P∧B.Nodup∧q1k P=bs∧m.nx≤n∧bs.length≤n∧0≤sd∧sd<18446744073709551616
section
variable {wb w W W':World} {g gs rate u n:Nat} {sd c s:Int} {bs:List Bt} {K K':Nat→Prop}
theorem StoP.bounds {gl gx:Nat} {m:Man} {ws:List En} {cnt:Nat} {B:List En} {C:Cks} {sure:Int} {P:Pbs} (h:StoP wb W g gs gl gx rate m ws sd c s u cnt B C sure P K) (hb:q1k P=bs) (hn:bs.length≤n):
  (tos bs).length≤8*n∧B.length≤8*n∧C.length≤n∧okBs bs:=by
 have hok:okBs bs:=hb▸h.stE.ok;have h1:=z5N hok;have h2:=h.len;rw[hb] at h2;have h3:=z0R C 0 h.i.cOk.full;rw[h.recE,q7K] at h3;have h4:bs.length=P.length:=by rw[←hb];exact List.length_map _
 exact ⟨by omega,by omega,by omega,hok⟩
theorem SK.few (h:SK wb W g gs rate sd c s u n bs K):bs.length≤n∧(tos bs).length≤8*n:=by
 obtain ⟨gl,gx,m,ws,B,C,sure,P,h1,h2,_,h4,_⟩:=h;exact ⟨h4,(h1.bounds h2 h4).1⟩
theorem SK.base (h:SK wb W g gs rate sd c s u n bs K):Ext wb W:=by
 obtain ⟨gl,gx,m,ws,B,C,sure,P,h1,_⟩:=h;exact h1.base
theorem SK.klt (h:SK wb W g gs rate sd c s u n bs K): ∀i,K i→i<W.heap.size:=by
 obtain ⟨gl,gx,m,ws,B,C,sure,P,h1,_⟩:=h;exact h1.klt
theorem SK.grow (h:SK wb W g gs rate sd c s u n bs K) (k:Ext W W'):SK wb W' g gs rate sd c s u n bs K:=by
 obtain ⟨gl,gx,m,ws,B,C,sure,P,h1,h2⟩:=h;exact ⟨gl,gx,m,ws,B,C,sure,P,h1.grow k,h2⟩
theorem SK.kExt (h:SK wb W g gs rate sd c s u n bs K) (k:Ext W W'):Stay K W W':=fun i hi=>k.block i (h.klt i hi)
theorem SK.more (h:SK wb W g gs rate sd c s u n bs K) (k:Ext W W') (hK: ∀i,K' i→K i∨(W.heap.size≤i∧i<W'.heap.size)):SK wb W' g gs rate sd c s u n bs K':=by
 obtain ⟨gl,gx,m,ws,B,C,sure,P,h1,h2⟩:=h;exact ⟨gl,gx,m,ws,B,C,sure,P,h1.more k hK,h2⟩
theorem SK.beside (h:SK wb W g gs rate sd c s u n bs K) (k: ∀i,K' i→K i):SK wb W g gs rate sd c s u n bs K':=by
 obtain ⟨gl,gx,m,ws,B,C,sure,P,h1,h2⟩:=h;exact ⟨gl,gx,m,ws,B,C,sure,P,h1.beside k,h2⟩
theorem SK.sideM (h:SK wb W g gs rate sd c s u n bs K) (hs:W.heap.size≤W'.heap.size) (hx:Ext wb W') (k: ∀i,i<W.heap.size→¬K i→W'.heap[i]? =W.heap[i]?) (hK: ∀i,K' i→K i∨(W.heap.size≤i∧i<W'.heap.size)):SK wb W' g gs rate sd c s u n bs K':=by
 obtain ⟨gl,gx,m,ws,B,C,sure,P,h1,h2⟩:=h;exact ⟨gl,gx,m,ws,B,C,sure,P,h1.sideM hs hx k hK,h2⟩
def EvR (wb w:World) (g gs rate:Nat) (sd c s:Int) (u n:Nat) (bs:List Bt) (K:Nat→Prop) (R:List To) (z:Int) (e:Ending) (w':World):Prop:=
 ∃v,e= .returned (.tuple #[v,.int .i64 z])∧SK wb w' g gs rate sd c s u n bs (fun i=>K i∨v.ownBlock=some i)∧Stay K w w'∧w'.ownsRow wb.heap.size 87 5 v R.length (q4i R)∧ ∀i,K i→v.ownBlock≠some i
theorem SK.last (h:SK wb w g gs rate sd c s u n bs K) (hn:n≤1000) (str:List UInt8) (hs:str.length≤4611686018427387903) {x y:Int} (hr:z1K bs str=(x,y)):
  Calls Tryz.prog 28 #[.pointer (some ⟨gs,0,none⟩),.string ⟨str.toArray⟩] w fun e w'=>e= .returned (.tuple #[.int .i64 x,.int .i64 y])∧SK wb w' g gs rate sd c s u n bs K∧Stay K w w':=by
 obtain ⟨gl,gx,m,ws,B,C,sure,P,h1,rfl,h3,h4,h5⟩:=h;obtain ⟨b1,b2,b3,b4⟩:=h1.bounds rfl h4;have b5:=q3q (q1k P) str;refine (z4w h1 str hs (by omega) (by omega) hr).mono ?_;rintro e w' ⟨rfl,k1,k2⟩;exact ⟨rfl,⟨gl,gx,m,ws,B,C,sure,P,k1,rfl,h3,h4,h5⟩,k2⟩
theorem SK.forward (h:SK wb w g gs rate sd c s u n bs K) (hn:n≤1000) (str:List UInt8) (hs:str.length≤4611686018427387903) (fr ct:Int) (hf0: -9223372036854775808≤fr) (hf1:fr≤9223372036854775807):
  Calls Tryz.prog 29 #[.pointer (some ⟨gs,0,none⟩),.string ⟨str.toArray⟩,.int .i64 fr,.int .i64 ct] w (EvR wb w g gs rate sd c s u n bs K (z3l bs str fr ct) (q3G str fr ct)):=by
 obtain ⟨gl,gx,m,ws,B,C,sure,P,h1,rfl,h3,h4,h5⟩:=h;obtain ⟨b1,b2,b3,b4⟩:=h1.bounds rfl h4;have b5:=q3q (q1k P) str;refine (z3W h1 str hs fr ct hf0 hf1 (by omega) (by omega)).mono ?_;rintro e w' ⟨v,rfl,k1,k2⟩;exact ⟨v,rfl,⟨gl,gx,m,ws,B,C,sure,P,k1,rfl,h3,h4,h5⟩,k2⟩
theorem SK.backward (h:SK wb w g gs rate sd c s u n bs K) (hn:n≤1000) (str:List UInt8) (hs:str.length≤4611686018427387903) (fr ct:Int) (hf1:fr≤9223372036854775807) (hc1:ct≤9223372036854775807):
  Calls Tryz.prog 101 #[.pointer (some ⟨gs,0,none⟩),.string ⟨str.toArray⟩,.int .i64 fr,.int .i64 ct] w (EvR wb w g gs rate sd c s u n bs K (z6a bs str fr ct) (q3G str fr ct)):=by
 obtain ⟨gl,gx,m,ws,B,C,sure,P,h1,rfl,h3,h4,h5⟩:=h;obtain ⟨b1,b2,b3,b4⟩:=h1.bounds rfl h4;have b5:=q3q (q1k P) str;refine (z1L h1 str hs fr ct hf1 hc1 (by omega) (by omega)).mono ?_;rintro e w' ⟨v,rfl,k1,k2⟩;exact ⟨v,rfl,⟨gl,gx,m,ws,B,C,sure,P,k1,rfl,h3,h4,h5⟩,k2⟩
theorem SK.append (h:SK wb w g gs rate sd c s u n bs K) (hn:n≤86) (str:List UInt8) (hs:str.length≤4611686018427387903) (ex:Int) {ao:Option Addr} {k cap:Nat} {L:List Ev} (hx: ∀W,Ext wb W→Stay K w W→Evs W ao k cap L) (hL:q4g L)
  (hwe: ∀e∈L,e.we<18446744073709551616) {z:Int} (hz:y1E bs str ex L=z):
  Calls Tryz.prog 12 #[.pointer (some ⟨gs,0,none⟩),.string ⟨str.toArray⟩,.int .i64 ex,.slice ao k cap] w fun e w'=>
   ∃ x y bs',e= .returned (.tuple #[.int .i64 x,.int .i64 y])∧SK wb w' g gs rate sd c s (u+2024) (n+1) bs' K∧Stay K w w'∧
    ((z≠0∧x=0∧y=z∧bs'=bs)∨(z=0∧x=0∧y=60∧bs'=bs∧c-(u:Int)-2024<6000)∨(z=0∧x=((q0u bs str).length:Int)∧y=0∧bs'=bs++[⟨str,(q0u bs str).length,L⟩])):=by
 obtain ⟨gl,gx,m,ws,B,C,sure,P,h1,rfl,h3,h4,h5⟩:=h;obtain ⟨b1,b2,b3,b4⟩:=h1.bounds rfl h4;have b5:=q3q (q1k P) str;refine (z5v h1 str hs ex hx hL hwe (by omega) (by omega) (by omega)).mono ?_;rw[hz];rintro e w' ⟨⟨k0,rfl,k1⟩|⟨rfl,rfl,k1,k3⟩|⟨rfl,k3,pos,ws',B',C',sure',rfl,k1⟩,k2⟩
 ·exact ⟨_,_,_,rfl,⟨gl,gx,m,ws,B,C,sure,P,k1.mono (by omega) (by omega),rfl,by omega,by omega,h5⟩,k2,.inl ⟨k0,rfl,rfl,rfl⟩⟩
 ·exact ⟨_,_,_,rfl,⟨gl,gx,m,ws,B,C,sure,P,k1.mono (by omega) (by omega),rfl,by omega,by omega,h5⟩,k2,.inr (.inl ⟨rfl,rfl,rfl,rfl,by omega⟩)⟩
 ·exact ⟨_,_,_,rfl,⟨gl,gx,m,ws',B',C',sure',_,k1.mono (by omega) (by omega),rfl,by omega,by rw[q5S,List.length_append,List.length_singleton];omega,h5⟩,k2,.inr (.inr ⟨rfl,rfl,rfl,q5S _ _ _⟩)⟩
theorem SQ.open (h:SQ wb w g sd c s u n bs K) (hn:n≤200) (rate:Nat):Calls Tryz.prog 32 #[.pointer (some ⟨g,0,none⟩),.int .u64 sd,.float .f64 rate] w fun e w'=>
  ∃gs,e= .returned (.tuple #[.pointer (some ⟨gs,0,none⟩),.int .i64 0])∧SK wb w' g gs rate sd c s u n bs K∧Stay K w w':=by
 obtain ⟨m,B,C,P,h1,h2,h3,rfl,h4,h5,h6,h7⟩:=h;have h8:=z5N h2.ok;refine (z8k h1 h2 h6 h7 (by omega) (by omega) h3 rate).mono ?_;rintro e w' ⟨gs,gl,gx,m',ws,B',sure,rfl,k1,k2,k3⟩;exact ⟨gs,rfl,⟨gl,gx,m',ws,B',C,sure,P,k1,rfl,by omega,h5,h6,h7⟩,k3⟩
theorem DkK.sq (h:DkK noO wb w g c s [] K) (sd:Int) (hs0:0≤sd) (hs1:sd<18446744073709551616):SQ wb w g sd c s 0 0 [] K:=by
 obtain ⟨F,σ,h1,h2⟩:=h;have hpl:Pl σ c s []:=by have:=h2.pl;simpa [q2G,noO,q2M,q5d,q3D,q3v] using this
 have hv:q0d 0 0 []=true:=by decide
 refine ⟨⟨0,0,sd,[]⟩,[],[],[],⟨⟨⟨0,0,sd,[]⟩,0,[],fun _=>none,0⟩,σ,fun _=>none,F,rfl,rfl,h1,⟨⟨⟨[],hpl,List.Pairwise.nil,fun _=>rfl,Nat.zero_le _,Nat.zero_le _⟩,⟨hv,hs0,hs1⟩,(fun n hn=>by cases hn),(fun n e he=>by cases he),(fun nm hn=>absurd rfl hn),okM.nil,okM.nil,fun x=>?_⟩,.inr ⟨rfl,rfl,rfl,rfl⟩,fun k _=>by simp⟩,okC.nil⟩,
  ⟨rfl,rfl,okBs.nil,(fun x hx=>by cases hx),(fun x hx=>by cases hx),by show (0:Int)≤q4r [];rw[z2J];decide⟩,List.nodup_nil,rfl,Int.le_refl _,Nat.le_refl _,hs0,hs1⟩
 constructor
 ·intro hx;cases hx
 ·rintro (hx|⟨n,e,he,_⟩)
  ·cases hx
  ·cases he
end
end
section
open Go.RowKit
theorem DkK.rebase {E:Oth} {wa wb w:World} {g:Nat} {c s:Int} {C:Cks} {K:Nat→Prop} (h:DkK E wb w g c s C K) (k:Ext wa wb):DkK E wa w g c s C K:=by
 obtain ⟨F,σ,h1,h2⟩:=h;have hs:=k.size;exact ⟨F,σ,⟨h1.d,fun i hi=>by have:=h1.bF i hi;omega,k.trans h1.ext,h1.k⟩,h2⟩
theorem DkK.base {E:Oth} {wb w:World} {g:Nat} {c s:Int} {C:Cks} {K:Nat→Prop} (h:DkK E wb w g c s C K):Ext wb w:=by
 obtain ⟨F,σ,h1,h2⟩:=h;exact h1.ext
theorem Blk.rd {w:World} {b:Nat} {t:TypeId} {cs:Array Value} (h:Blk w b t cs):Rd w (some ⟨b,0,none⟩) cs.toList:=fun j u hj=>⟨b,0,rfl,by rw[Nat.zero_add,h.cell j];simpa using hj⟩
theorem Blk.evs {w:World} {b:Nat} {t:TypeId} {L:List Ev} (h:Blk w b t (q6n L).toArray) {k:Nat} (hk:k≤L.length) (hl:L.length≤1000000):Evs w (some ⟨b,0,none⟩) k L.length (L.take k):=by
 refine ⟨by rw[List.length_take];omega,hk,by omega,(fun e=>by cases e),?_⟩;have h1:=h.rd.take (k*3);have e:(q6n L).take (k*3)=q6n (L.take k):=by
  conv=>lhs;rw[←List.take_append_drop k L,q7G]
  exact List.take_left' (by rw[z1P,List.length_take];omega)
 rw[←e]
 simpa using h1
theorem z4a {w:World} {B:Nat} {e:TypeId} {ao:Option Addr} {n cp:Nat} {L:List To} (h:w.ownsRow B e 5 (.slice ao n cp) L.length (q4i L)):Tos w ao n cp L∧n=L.length:=by
 obtain ⟨a,c,e1,h2⟩:=Tos.of_own (Own.of_row h)
 cases e1;exact ⟨h2,rfl⟩
abbrev evA :Ev:=⟨[97],[],0⟩
abbrev z7n :Ev:=⟨[98],[],0⟩
theorem z6x {L:List Ev} (h: ∀e∈L,e.ty.length≤300∧e.da.length≤300):q4g L:=fun e he=>by have:=h e he;omega
end
section
open Go.RowKit
section
variable {wb w W W1 W2:World} {g gs rate u n:Nat} {sd c s:Int} {bs:List Bt} {K K':Nat→Prop}
end
end
section
open Go.RowKit
end
section
open Go.RowKit
section
variable {wb w W W':World} {g gs gw rate u n:Nat} {sd c s:Int} {bs:List Bt} {K K':Nat→Prop}
end
end
end Go.Proofs.YthdekbmdkpcooaaGreatDoor
