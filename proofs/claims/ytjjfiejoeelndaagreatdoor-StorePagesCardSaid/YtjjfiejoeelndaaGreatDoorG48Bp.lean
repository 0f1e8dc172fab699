/- The shelf's contract of slices.Reverse at []api.Told at this seat, in plain words. -/
import Derived.Shelf.SlicesQ.Reverse
import Derived.Ground.SlgnProg
import Derived.Test.YtjjfiejoeelndaaGreatDoorG47Bp
import Derived.Deep.MidRow
set_option linter.unusedVariables false
set_option linter.unusedSimpArgs false
set_option maxRecDepth 100000
set_option maxHeartbeats 12800000
namespace Go.Proofs
open Go.Shelf
def Tryz.reverseTold_ren :Go.Shelf.Ren:=⟨fun|35=>61|n=>n,fun|22=>54|23=>76|3=>3|4=>4|0=>0|n=>n,fun|n=>n⟩
theorem Tryz.reverseTold :Go.Proofs.SlLaysE0.n35 Tryz.prog Tryz.reverseTold_ren:={
 mixed:=by kernel_rfl
 f35:=⟨Tryz.f61.name,by decide,Tryz.func61.trans (congrArg some (by kernel_rfl))⟩
 t0:=Tryz.underlying0
 a0:=Tryz.isAgg0
 z0:=Tryz.sizeOf0
 v0:=Tryz.zeroValue0
 t3:=Tryz.underlying3
 a3:=Tryz.isAgg3
 z3:=Tryz.sizeOf3
 v3:=Tryz.zeroValue3
 t4:=Tryz.underlying4
 a4:=Tryz.isAgg4
 z4:=Tryz.sizeOf4
 v4:=Tryz.zeroValue4
 t22:=Tryz.underlying54
 a22:=Tryz.isAgg54
 z22:=Tryz.sizeOf54
 v22:=Tryz.zeroValue54}
end Go.Proofs
namespace Go.Proofs.YtjjfiejoeelndaaGreatDoor
theorem η48 {p:Prop} (h:p):Go.RowKit.Hid p:=Lib.hid h
section
open Go.RowKit Go.Sort Go.Lib
theorem z3h {w:World} {base k:Nat} {e:TypeId} {g n cap q:Nat} {cs:List Value} {F:Array Value} (h:w.ownsRow base e k (.slice (some ⟨g,0,none⟩) n cap) n cs) (hF:F.size=n*k):
  (putRow id (Sort.ahead w q) g 0 F).ownsRow base e k (.slice (some ⟨g,0,none⟩) n cap) n F.toList:=by
 rcases h.2 with ⟨e0,_⟩|⟨g',cap',cur,e0,hb,hg,hn,hm,hs,ht⟩
 ·cases e0
 ·injection e0 with e1 _ e3
  injection e1 with e1;injection e1 with e1;subst e1;subst e3;have hnk:n*k≤cap*k:=Nat.mul_le_mul_right k hn;refine ⟨by simpa using hF,.inr ⟨g,cap,putCells id 0 F cur,rfl,hb,?_,hn,hm,by simpa [putCells] using hs,?_⟩⟩
  ·simp[putRow,mapBlock,Sort.ahead,Array.getElem?_modify,hg,onCells]
  ·apply List.ext_getElem?
   intro j;rw[List.getElem?_take,Array.getElem?_toList,Array.getElem?_toList];by_cases hj:j<n*k
   ·have hjc:j<cur.size:=by omega
    simp only[if_pos hj,putCells,Array.getElem?_mapIdx,Array.getElem?_eq_getElem hjc,Option.map_some];rw[if_pos (by omega),Array.getElem?_eq_getElem (by omega)];simp[getElem!_pos,show j<F.size by omega]
   ·rw[if_neg hj,Array.getElem?_eq_none (by omega)]
theorem z0g {w:World} {base k:Nat} {e:TypeId} {g n cap:Nat} {cs:List Value} (h:w.ownsRow base e k (.slice (some ⟨g,0,none⟩) n cap) n cs):Holds id w g 0 cs.toArray:=by
 have hl:=h.1;rcases h.2 with ⟨e0,_⟩|⟨g',cap',cur,e0,hb,hg,hn,hm,hs,ht⟩
 ·cases e0
 ·injection e0 with e1 _ e3
  injection e1 with e1;injection e1 with e1;subst e1;subst e3;have hnk:n*k≤cap*k:=Nat.mul_le_mul_right k hn;intro j hj;have hj':j<n*k:=by simpa [hl] using hj
  refine ⟨?_,by simp[World.frozen?,hg]⟩;have e1:(cur.toList.take (n*k))[j]? =cs[j]? :=by rw[ht]
  rw[List.getElem?_take,if_pos hj',Array.getElem?_toList] at e1;simp only[World.cell?,hg,Nat.zero_add];simp only[Option.isSome_none,Bool.false_eq_true,if_false];rw[e1,List.getElem?_eq_getElem (by omega)];simp[getElem!_pos,show j<cs.length by omega]
instance : Inhabited To:=⟨to0⟩
theorem z2p (T:List To):flatK toc 5 T.toArray=(q3K T).toArray:=by
 have hsz:(flatK toc 5 T.toArray).size=T.length*5:=by simp[flatK]
 refine ext_get! (by rw[hsz];simp[q3g]) fun t ht=>?_
 rw[hsz] at ht;rw[get_flatK _ _ _ _ (by simpa using ht)];have h1:=q5B T (t/5) (t % 5) (by omega) (Nat.mod_lt _ (by decide));rw[show t/5*5+t % 5=t by omega] at h1;have h2:t/5<T.length:=by omega
 rw[show (T.toArray)[t/5]! =T.getD (t/5) to0 by simp[getElem!_pos,h2,List.getD_eq_getElem?_getD]];rw[show (q3K T).toArray[t]! =((q3K T)[t]?).getD default by simp only[getElem!_def,List.getElem?_toArray];cases (q3K T)[t]? <;>rfl,h1];simp only[getElem!_def]
 cases (toc (T.getD (t/5) to0))[t % 5]? <;>rfl
theorem z8m {w:World} {base:Nat} {v:Value} {T:List To} (h:w.ownsRow base 76 5 v T.length (q3K T)) (hn:T.length≤9223372036854775807):
  Calls Tryz.prog 61 #[v] w fun e w'=>e= .returned (.tuple #[])∧w'.ownsRow base 76 5 v T.length (q3K T.reverse)∧(∀w0,Below w0.heap.size w0 w→w0.heap.size≤base→Below w0.heap.size w0 w')∧
   (∀i,v.ownBlock≠some i→w'.heap[i]? =w.heap[i]?)∧w.heap.size≤w'.heap.size:=by
 rcases h.2 with ⟨rfl,h0⟩|⟨g,cap,cur,rfl,hb,hg,h1,h2,h3,h4⟩
 ·have hT:T=[]:=List.length_eq_zero_iff.1 h0
  subst hT;refine (AnyQ.slices_Reverse_empty Tryz.reverseTold none 0 w).mono ?_;rintro e w' ⟨rfl,rfl⟩;exact ⟨rfl,h,fun _ hh _=>hh,fun _ _=>rfl,Nat.le_refl _⟩
 ·have hr:=AnyQ.slices_Reverse Tryz.reverseTold 5 Tryz.isAgg76 Tryz.sizeOf76 toc (fun _=>rfl) (fun x u hu=>z0i [x] u (by simpa [q3K] using hu)) g 0 cap T.toArray w (by unfold HoldsK;rw[z2p];exact z0g h) (by simpa using hn)
  have e0:T.toArray.size=T.length:=by simp
  rw[e0] at hr;refine hr.mono ?_;rintro e w' ⟨rfl,q,rfl⟩;have e1:putRowK toc 5 (Sort.ahead w q) g 0 T.toArray.reverse=putRow id (Sort.ahead w q) g 0 (q3K T.reverse).toArray:=by
   unfold putRowK;rw[show T.toArray.reverse=T.reverse.toArray by simp,z2p]
  rw[e1];refine ⟨rfl,?_,fun w0 hh hle=>below_putRow hh (by omega),fun i hi=>?_,?_⟩
  ·have:=z3h (q:=q) (F:=(q3K T.reverse).toArray) h (by simp[q3g])
   simpa using this
  ·have hne:g≠i:=fun e=>hi (by rw[e];rfl)
   simp[putRow,mapBlock,Sort.ahead,Array.getElem?_modify,hne]
  ·simp[Sort.ahead]
def y0o (bs:List Bt) (str:List UInt8) (fr ct:Int):List To:=if q3u str fr ct=0 then (z2j (q7c bs str) fr ct).reverse else []
section
variable {wb w W W1 W2:World} {g gl gs gx rate:Nat} {m:Man} {ws:List En} {c s sd:Int} {u cnt:Nat} {B:List En} {C:Cks} {P:Pbs} {sure:Int} {K K':Nat→Prop}
theorem z3u (h:StoP wb w g gs gl gx rate m ws sd c s u cnt B C sure P K) (str:List UInt8) (hs:str.length≤4611686018427387903) (fr ct:Int) (hf1:fr≤9223372036854775807) (hc1:ct≤9223372036854775807) (hl:B.length≤10000) (hev:(q1J (q1b P) str).length≤10000):
  Calls Tryz.prog 28 #[.pointer (some ⟨gs,0,none⟩),.string ⟨str.toArray⟩,.int .i64 fr,.int .i64 ct] w (ToldR wb w g gs gl gx rate m ws sd c s u cnt B C sure P K (y0o (q1b P) str fr ct) (q3u str fr ct)):=by
 have HPg:=η48 (z7L h.b str hs fr ct);have HH:=η48 h;obtain ⟨R,hR⟩: ∃R,y0o (q1b P) str fr ct=R:=⟨_,rfl⟩
 rw[hR];unfold y0o at hR;by_cases hz:q3u str fr ct=0
 ·have hfc:0≤fr∧1≤ct:=by
   unfold q3u at hz
   split at hz
   ·cases hz
   ·omega
  rw[if_pos hz] at hR;rw[hz] at HPg⊢;have q1:IntKind.i64.wrap (fr-ct)=fr-ct:=by rw[IntKind.wrap_i64];omega
  have q2:IntKind.i64.wrap (fr-ct+1)=fr-ct+1:=by rw[IntKind.wrap_i64];omega
  have hpd:=z7T (q1b P) str (f:=fr) (c:=ct) hfc.1 hfc.2 (by omega);obtain ⟨R0,hR0⟩: ∃R0,z2j (q7c (q1b P) str) fr ct=R0:=⟨_,rfl⟩
  rw[hR0] at hpd hR;have hR0l:R0.length≤10000:=by
   rw[←hpd];refine Nat.le_trans (List.length_filter_le _ _) ?_;rw[q5o];exact hev
  have HB:=η48 (fun W (k:Ext w W)=>q8Q (h.grow k) str hs (fr-ct+1) fr hl hpd);have HRe:Hid (R0.reverse=R):=η48 hR;clear hz hR h hpd hR0;go_enter Tryz.func28,Tryz.ntmps28;go_wp2_with fail;refine HPg.out.mono ?_;rintro e w1 ⟨rfl,hx⟩;have HX:=η48 hx;clear hx;go_wp2_with fail;refine (HB.out _ HX.out).mono ?_;rintro e w2 ⟨v,rfl,hh,hst,hrow,hdj⟩;obtain ⟨ra,rc,rfl⟩:=q0G hrow;have HRv:=η48 (z8m hrow (by omega));have HH2:=η48 hh;have HS2:=η48 ((HH.out.kExt HX.out).trans hst);have HDj:=η48 hdj;clear hh hst hrow hdj HB;go_wp2_with fail;refine HRv.out.mono ?_;rintro e w3 ⟨rfl,hrow,hbl,hsame,hsz⟩;rw[HRe.out] at hrow;have hlen:R.length=R0.length:=by rw[←HRe.out,List.length_reverse]
  have HF:Hid (ToldR wb w g gs gl gx rate m ws sd c s u cnt B C sure P K R 0 (.returned (.tuple #[.slice ra R0.length rc,.int .i64 0])) w3):=η48
   ⟨_,rfl,HH2.out.sideM hsz (hbl wb HH2.out.base (Nat.le_refl _)) (fun i hi hn=>hsame i fun e=>hn (.inr e)) fun i hi=> .inl hi,HS2.out.trans fun i hi=>hsame i (HDj.out i hi),by rw[hlen];exact hrow,HDj.out⟩
  clear hrow hbl hsame hsz HRv;go_wp2_with fail;go_ret2;exact HF.out
 ·rw [if_neg hz] at hR
  subst hR;have hz2:q3u str fr ct=2:=by
   unfold q3u at hz⊢
   split at hz
   ·rename_i h1;rw[if_pos h1]
   ·exact absurd rfl hz
  rw[hz2] at HPg⊢;clear hz hz2 h;go_enter Tryz.func28,Tryz.ntmps28;go_wp2_with fail;refine HPg.out.mono ?_;rintro e w1 ⟨rfl,hx⟩;have HX:=η48 hx;clear hx;go_wp2_with fail;go_ret2;exact ToldR.nil (HH.out.grow HX.out) (HH.out.kExt HX.out) 2
end
end
section
open Go.RowKit
theorem z2P : ∀(C:Cks) (b:Nat),(∀ps∈C,ps≠[])→C.length≤(q1E b C).length
 |[],_,_=>Nat.le_refl _
 | ps::t,b,h=>by
  have h1:=z2P t (b+4096) fun q hq=>h q (.tail _ hq)
  have h2:0<ps.length:=List.length_pos_iff.2 (h ps (.head _));rw[q1E,List.length_append,q4n,List.length_cons];omega
theorem z7s {bs:List Bt} (h:okBs bs):(tos bs).length≤8*bs.length:=by
 induction bs using z0p with
 |h0=>exact Nat.le_refl _
 | h1 l b ih=>
  obtain ⟨h1,h2,_⟩:=okBs_snoc.1 h;have h3:=(q0s h2.1).2.2.2.1;have h4:=ih h1;rw[q3X,q8P,List.length_append,q4d,List.length_append,List.length_singleton];omega
def SK (wb W:World) (g gs rate:Nat) (sd c s:Int) (u n:Nat) (bs:List Bt) (K:Nat→Prop):Prop:=
 ∃gl gx m ws B C sure P,StoP wb W g gs gl gx rate m ws sd c s u (40+3*n) B C sure P K∧q1b P=bs∧m.nx≤n∧bs.length≤n∧0≤sd∧sd<18446744073709551616
def SQ (wb W:World) (g:Nat) (sd c s:Int) (u n:Nat) (bs:List Bt) (K:Nat→Prop):Prop:=
 ∃m B C P,DKQ wb W g m c s u (40+3*n) B C K∧y4X sd m B C P∧B.Nodup∧q1b P=bs∧m.nx≤n∧bs.length≤n∧0≤sd∧sd<18446744073709551616
section
variable {wb w W W':World} {g gs rate u n:Nat} {sd c s:Int} {bs:List Bt} {K K':Nat→Prop}
theorem StoP.bounds {gl gx:Nat} {m:Man} {ws:List En} {cnt:Nat} {B:List En} {C:Cks} {sure:Int} {P:Pbs} (h:StoP wb W g gs gl gx rate m ws sd c s u cnt B C sure P K) (hb:q1b P=bs) (hn:bs.length≤n):
  (tos bs).length≤8*n∧B.length≤8*n∧C.length≤n∧okBs bs:=by
 have hok:okBs bs:=hb▸h.stE.ok;have h1:=z7s hok;have h2:=h.len;rw[hb] at h2;have h3:=z2P C 0 h.i.cOk.full;rw[h.recE,q8m] at h3;have h4:bs.length=P.length:=by rw[←hb];exact List.length_map _
 exact ⟨by omega,by omega,by omega,hok⟩
theorem SK.ok (h:SK wb W g gs rate sd c s u n bs K):okBs bs:=by
 obtain ⟨gl,gx,m,ws,B,C,sure,P,h1,h2,_,h4,_⟩:=h;exact (h1.bounds h2 h4).2.2.2
theorem SK.few (h:SK wb W g gs rate sd c s u n bs K):bs.length≤n∧(tos bs).length≤8*n:=by
 obtain ⟨gl,gx,m,ws,B,C,sure,P,h1,h2,_,h4,_⟩:=h;exact ⟨h4,(h1.bounds h2 h4).1⟩
theorem SK.base (h:SK wb W g gs rate sd c s u n bs K):Ext wb W:=by
 obtain ⟨gl,gx,m,ws,B,C,sure,P,h1,_⟩:=h;exact h1.base
theorem SK.klt (h:SK wb W g gs rate sd c s u n bs K): ∀i,K i→i<W.heap.size:=by
 obtain ⟨gl,gx,m,ws,B,C,sure,P,h1,_⟩:=h;exact h1.klt
theorem SK.grow (h:SK wb W g gs rate sd c s u n bs K) (k:Ext W W'):SK wb W' g gs rate sd c s u n bs K:=by
 obtain ⟨gl,gx,m,ws,B,C,sure,P,h1,h2⟩:=h;exact ⟨gl,gx,m,ws,B,C,sure,P,h1.grow k,h2⟩
theorem SK.kExt (h:SK wb W g gs rate sd c s u n bs K) (k:Ext W W'):Stay K W W':=fun i hi=>k.block i (h.klt i hi)
theorem SK.more (h:SK wb W g gs rate sd c s u n bs K) (k:Ext W W') (hK: ∀i,K' i→K i∨(W.heap.size≤i∧i<W'.heap.size)):SK wb W' g gs rate sd c s u n bs K':=by
 obtain ⟨gl,gx,m,ws,B,C,sure,P,h1,h2⟩:=h;exact ⟨gl,gx,m,ws,B,C,sure,P,h1.more k hK,h2⟩
theorem SK.beside (h:SK wb W g gs rate sd c s u n bs K) (k: ∀i,K' i→K i):SK wb W g gs rate sd c s u n bs K':=by
 obtain ⟨gl,gx,m,ws,B,C,sure,P,h1,h2⟩:=h;exact ⟨gl,gx,m,ws,B,C,sure,P,h1.beside k,h2⟩
theorem SK.sideM (h:SK wb W g gs rate sd c s u n bs K) (hs:W.heap.size≤W'.heap.size) (hx:Ext wb W') (k: ∀i,i<W.heap.size→¬K i→W'.heap[i]? =W.heap[i]?) (hK: ∀i,K' i→K i∨(W.heap.size≤i∧i<W'.heap.size)):SK wb W' g gs rate sd c s u n bs K':=by
 obtain ⟨gl,gx,m,ws,B,C,sure,P,h1,h2⟩:=h;exact ⟨gl,gx,m,ws,B,C,sure,P,h1.sideM hs hx k hK,h2⟩
def EvR (wb w:World) (g gs rate:Nat) (sd c s:Int) (u n:Nat) (bs:List Bt) (K:Nat→Prop) (R:List To) (z:Int) (e:Ending) (w':World):Prop:=
 ∃v,e= .returned (.tuple #[v,.int .i64 z])∧SK wb w' g gs rate sd c s u n bs (fun i=>K i∨v.ownBlock=some i)∧Stay K w w'∧w'.ownsRow wb.heap.size 76 5 v R.length (q3K R)∧ ∀i,K i→v.ownBlock≠some i
theorem SK.last (h:SK wb w g gs rate sd c s u n bs K) (hn:n≤1000) (str:List UInt8) (hs:str.length≤4611686018427387903) {x y:Int} (hr:z1p bs str=(x,y)):
  Calls Tryz.prog 13 #[.pointer (some ⟨gs,0,none⟩),.string ⟨str.toArray⟩] w fun e w'=>e= .returned (.tuple #[.int .i64 x,.int .i64 y])∧SK wb w' g gs rate sd c s u n bs K∧Stay K w w':=by
 obtain ⟨gl,gx,m,ws,B,C,sure,P,h1,rfl,h3,h4,h5⟩:=h;obtain ⟨b1,b2,b3,b4⟩:=h1.bounds rfl h4;have b5:=q6E (q1b P) str;refine (z7S h1 str hs (by omega) (by omega) hr).mono ?_;rintro e w' ⟨rfl,k1,k2⟩;exact ⟨rfl,⟨gl,gx,m,ws,B,C,sure,P,k1,rfl,h3,h4,h5⟩,k2⟩
theorem SK.all (h:SK wb w g gs rate sd c s u n bs K) (hn:n≤1000):Calls Tryz.prog 20 #[.pointer (some ⟨gs,0,none⟩)] w (EvR wb w g gs rate sd c s u n bs K (tos bs) 0):=by
 obtain ⟨gl,gx,m,ws,B,C,sure,P,h1,rfl,h3,h4,h5⟩:=h;obtain ⟨b1,b2,b3,b4⟩:=h1.bounds rfl h4;refine (y3P h1 rfl (by omega)).mono ?_;rintro e w' ⟨v,rfl,k1,k2⟩;exact ⟨v,rfl,⟨gl,gx,m,ws,B,C,sure,P,k1,rfl,h3,h4,h5⟩,k2⟩
theorem SK.forward (h:SK wb w g gs rate sd c s u n bs K) (hn:n≤1000) (str:List UInt8) (hs:str.length≤4611686018427387903) (fr ct:Int) (hf0: -9223372036854775808≤fr) (hf1:fr≤9223372036854775807):
  Calls Tryz.prog 27 #[.pointer (some ⟨gs,0,none⟩),.string ⟨str.toArray⟩,.int .i64 fr,.int .i64 ct] w (EvR wb w g gs rate sd c s u n bs K (y1D bs str fr ct) (q3u str fr ct)):=by
 obtain ⟨gl,gx,m,ws,B,C,sure,P,h1,rfl,h3,h4,h5⟩:=h;obtain ⟨b1,b2,b3,b4⟩:=h1.bounds rfl h4;have b5:=q6E (q1b P) str;refine (z5y h1 str hs fr ct hf0 hf1 (by omega) (by omega)).mono ?_;rintro e w' ⟨v,rfl,k1,k2⟩;exact ⟨v,rfl,⟨gl,gx,m,ws,B,C,sure,P,k1,rfl,h3,h4,h5⟩,k2⟩
theorem SK.backward (h:SK wb w g gs rate sd c s u n bs K) (hn:n≤1000) (str:List UInt8) (hs:str.length≤4611686018427387903) (fr ct:Int) (hf1:fr≤9223372036854775807) (hc1:ct≤9223372036854775807):
  Calls Tryz.prog 28 #[.pointer (some ⟨gs,0,none⟩),.string ⟨str.toArray⟩,.int .i64 fr,.int .i64 ct] w (EvR wb w g gs rate sd c s u n bs K (y0o bs str fr ct) (q3u str fr ct)):=by
 obtain ⟨gl,gx,m,ws,B,C,sure,P,h1,rfl,h3,h4,h5⟩:=h;obtain ⟨b1,b2,b3,b4⟩:=h1.bounds rfl h4;have b5:=q6E (q1b P) str;refine (z3u h1 str hs fr ct hf1 hc1 (by omega) (by omega)).mono ?_;rintro e w' ⟨v,rfl,k1,k2⟩;exact ⟨v,rfl,⟨gl,gx,m,ws,B,C,sure,P,k1,rfl,h3,h4,h5⟩,k2⟩
theorem SK.index (h:SK wb w g gs rate sd c s u n bs K) (hn:n≤86):Calls Tryz.prog 24 #[.pointer (some ⟨gs,0,none⟩)] w fun e w'=> ∃z,e= .returned (.int .i64 z)∧(z=0∨z=60)∧SK wb w' g gs rate sd c s (u+20000) (n+1) bs K∧Stay K w w':=by
 obtain ⟨gl,gx,m,ws,B,C,sure,P,h1,rfl,h3,h4,h5⟩:=h;obtain ⟨b1,b2,b3,b4⟩:=h1.bounds rfl h4;refine (z9N h1 (by omega) (by omega) (by omega)).mono ?_;rintro e w' ⟨z,m',ws',sure',rfl,hz,hnx,k1,k2⟩;exact ⟨z,rfl,hz,⟨gl,gx,m',ws',B,C,sure',P,k1.mono (by omega) (by omega),rfl,by omega,by omega,h5⟩,k2⟩
theorem SK.merge (h:SK wb w g gs rate sd c s u n bs K) (hn:n≤86) (lv:Int):Calls Tryz.prog 25 #[.pointer (some ⟨gs,0,none⟩),.int .i64 lv] w fun e w'=>
  ∃z,e= .returned (.int .i64 z)∧(z=0∨z=60∨z=4∨(z=2∧(lv<0∨5≤lv)))∧SK wb w' g gs rate sd c s (u+20000) (n+1) bs K∧Stay K w w':=by
 obtain ⟨gl,gx,m,ws,B,C,sure,P,h1,rfl,h3,h4,h5⟩:=h;obtain ⟨b1,b2,b3,b4⟩:=h1.bounds rfl h4;refine (z9m h1 lv (by omega) (by omega) (by omega)).mono ?_;rintro e w' ⟨z,m',rfl,hz,hnx,k1,k2⟩;exact ⟨z,rfl,hz,⟨gl,gx,m',ws,B,C,sure,P,k1.mono (by omega) (by omega),rfl,by omega,by omega,h5⟩,k2⟩
theorem SK.append (h:SK wb w g gs rate sd c s u n bs K) (hn:n≤86) (str:List UInt8) (hs:str.length≤4611686018427387903) (ex:Int) {ao:Option Addr} {k cap:Nat} {L:List Ev} (hx: ∀W,Ext wb W→Stay K w W→Evs W ao k cap L) (hL:q5N L)
  (hwe: ∀e∈L,e.we<18446744073709551616) {z:Int} (hz:y0u bs str ex L=z):
  Calls Tryz.prog 17 #[.pointer (some ⟨gs,0,none⟩),.string ⟨str.toArray⟩,.int .i64 ex,.slice ao k cap] w fun e w'=>
   ∃ x y bs',e= .returned (.tuple #[.int .i64 x,.int .i64 y])∧SK wb w' g gs rate sd c s (u+2024) (n+1) bs' K∧Stay K w w'∧
    ((z≠0∧x=0∧y=z∧bs'=bs)∨(z=0∧x=0∧y=60∧bs'=bs∧c-(u:Int)-2024<6000)∨(z=0∧x=((q1J bs str).length:Int)∧y=0∧bs'=bs++[⟨str,(q1J bs str).length,L⟩])):=by
 obtain ⟨gl,gx,m,ws,B,C,sure,P,h1,rfl,h3,h4,h5⟩:=h;obtain ⟨b1,b2,b3,b4⟩:=h1.bounds rfl h4;have b5:=q6E (q1b P) str;refine (z7H h1 str hs ex hx hL hwe (by omega) (by omega) (by omega)).mono ?_;rw[hz];rintro e w' ⟨⟨k0,rfl,k1⟩|⟨rfl,rfl,k1,k3⟩|⟨rfl,k3,pos,ws',B',C',sure',rfl,k1⟩,k2⟩
 ·exact ⟨_,_,_,rfl,⟨gl,gx,m,ws,B,C,sure,P,k1.mono (by omega) (by omega),rfl,by omega,by omega,h5⟩,k2,.inl ⟨k0,rfl,rfl,rfl⟩⟩
 ·exact ⟨_,_,_,rfl,⟨gl,gx,m,ws,B,C,sure,P,k1.mono (by omega) (by omega),rfl,by omega,by omega,h5⟩,k2,.inr (.inl ⟨rfl,rfl,rfl,rfl,by omega⟩)⟩
 ·exact ⟨_,_,_,rfl,⟨gl,gx,m,ws',B',C',sure',_,k1.mono (by omega) (by omega),rfl,by omega,by rw[q4o,List.length_append,List.length_singleton];omega,h5⟩,k2,.inr (.inr ⟨rfl,rfl,rfl,q4o _ _ _⟩)⟩
theorem SK.disk (h:SK wb W g gs rate sd c s u n bs K):SQ wb W g sd c s u n bs K:=by
 obtain ⟨gl,gx,m,ws,B,C,sure,P,h1,h2,h3,h4,h5⟩:=h;obtain ⟨B0,k1,k2⟩:=h1.i.forget;have hnd:B0.Nodup:=by
  obtain ⟨st,σ,φ,gv,F,rfl,_,_,⟨h6,_⟩,_⟩:=k1;exact h6.okB.sort.imp fun {a b} hab e=>by rw[e,q0d] at hab;cases hab
 obtain ⟨st,σ,φ,F,q1,q2,q3,q4,q5⟩:=k1.dkq;refine ⟨m,B0,C,P,⟨st,σ,φ,F,q1,q2,⟨q3.d,q3.bF,q3.ext,fun i hi=>q3.k i (.inl hi)⟩,q4,q5⟩,⟨h1.sdE,h1.recE,h1.stE.ok,fun x hx=>(h1.stE.ents x).1 ((k2 x).2 (.inr hx)),fun x hx=>?_,h1.ckE⟩,hnd,h2,h3,h4,h5⟩;rcases (k2 x).1 ((h1.stE.ents x).2 hx) with hx|hx
 ·exact .inr (h1.wsE x hx)
 ·exact .inl hx
theorem SQ.open (h:SQ wb w g sd c s u n bs K) (hn:n≤200) (rate:Nat):Calls Tryz.prog 26 #[.pointer (some ⟨g,0,none⟩),.int .u64 sd,.float .f64 rate] w fun e w'=>
  ∃gs,e= .returned (.tuple #[.pointer (some ⟨gs,0,none⟩),.int .i64 0])∧SK wb w' g gs rate sd c s u n bs K∧Stay K w w':=by
 obtain ⟨m,B,C,P,h1,h2,h3,rfl,h4,h5,h6,h7⟩:=h;have h8:=z7s h2.ok;refine (y1Y h1 h2 h6 h7 (by omega) (by omega) h3 rate).mono ?_;rintro e w' ⟨gs,gl,gx,m',ws,B',sure,rfl,k1,k2,k3⟩;exact ⟨gs,rfl,⟨gl,gx,m',ws,B',C,sure,P,k1,rfl,by omega,h5,h6,h7⟩,k3⟩
theorem DkK.sq (h:DkK noO wb w g c s [] K) (sd:Int) (hs0:0≤sd) (hs1:sd<18446744073709551616):SQ wb w g sd c s 0 0 [] K:=by
 obtain ⟨F,σ,h1,h2⟩:=h;have hpl:Pl σ c s []:=by have:=h2.pl;simpa [q2d,noO,q1i,q5d,q3r,q4j] using this
 have hv:q0Z 0 0 []=true:=by decide
 refine ⟨⟨0,0,sd,[]⟩,[],[],[],⟨⟨⟨0,0,sd,[]⟩,0,[],fun _=>none,0⟩,σ,fun _=>none,F,rfl,rfl,h1,⟨⟨⟨[],hpl,List.Pairwise.nil,fun _=>rfl,Nat.zero_le _,Nat.zero_le _⟩,⟨hv,hs0,hs1⟩,(fun n hn=>by cases hn),(fun n e he=>by cases he),(fun nm hn=>absurd rfl hn),okM.nil,okM.nil,fun x=>?_⟩,.inr ⟨rfl,rfl,rfl,rfl⟩,fun k _=>by simp⟩,okC.nil⟩,
  ⟨rfl,rfl,okBs.nil,(fun x hx=>by cases hx),(fun x hx=>by cases hx),by show (0:Int)≤q4P [];rw[z4k];decide⟩,List.nodup_nil,rfl,Int.le_refl _,Nat.le_refl _,hs0,hs1⟩
 constructor
 ·intro hx;cases hx
 ·rintro (hx|⟨n,e,he,_⟩)
  ·cases hx
  ·cases he
end
end
section
open Go.RowKit
theorem DkK.rebase {E:Oth} {wa wb w:World} {g:Nat} {c s:Int} {C:Cks} {K:Nat→Prop} (h:DkK E wb w g c s C K) (k:Ext wa wb):DkK E wa w g c s C K:=by
 obtain ⟨F,σ,h1,h2⟩:=h;have hs:=k.size;exact ⟨F,σ,⟨h1.d,fun i hi=>by have:=h1.bF i hi;omega,k.trans h1.ext,h1.k⟩,h2⟩
theorem DkK.base {E:Oth} {wb w:World} {g:Nat} {c s:Int} {C:Cks} {K:Nat→Prop} (h:DkK E wb w g c s C K):Ext wb w:=by
 obtain ⟨F,σ,h1,h2⟩:=h;exact h1.ext
theorem z5L (sd:Int) (rate:Nat) (room:Int) (w:World) (hs0:0≤sd) (hs1:sd<18446744073709551616) (hr0:0≤room) (hr1:room≤65535):
  Calls Tryz.prog 23 #[.agg #[.int .u64 sd,.float .f64 rate,.int .u16 room]] w fun e w'=> ∃g gs,e= .returned (.tuple #[.pointer (some ⟨g,0,none⟩),.pointer (some ⟨gs,0,none⟩),.bool true])∧SK w w' g gs rate sd (6000+room*4) 0 0 0 [] noI:=by
 have hx1:=q0D w (.cells #[.int .u64 sd,.float .f64 rate,.int .u16 room] 27);have hbk:=Blk.new w 27 #[.int .u64 sd,.float .f64 rate,.int .u16 room];have k2:=hbk.cell 2;have HBk:=η48 hbk;have HX1:=η48 hx1;have HN:=η48 (fun W=>DkK.new24 W (6000+room*4) (by omega) (by omega));have q0:IntKind.i64.wrap room=room:=by rw[IntKind.wrap_i64];omega
 have q1:IntKind.i64.wrap (room*4)=room*4:=by rw[IntKind.wrap_i64];omega
 have q2:IntKind.i64.wrap (6000+room*4)=6000+room*4:=by rw[IntKind.wrap_i64];omega
 clear hx1 hbk;go_enter Tryz.func23,Tryz.ntmps23;go_wp2_with fail;refine (HN.out _).mono ?_;rintro e w1 ⟨g,rfl,hd⟩;have hx:=DkK.base hd;have hb1:=HBk.out.ext hx;have k0:=hb1.cell 0;have k1:=hb1.cell 1;have HS:=η48 ((DkK.sq (hd.rebase HX1.out) sd hs0 hs1).open (by omega) rate);have HX2:=η48 (HX1.out.trans hx);clear hd hx hb1 k2;go_wp2_with fail;refine HS.out.mono ?_;rintro e w2 ⟨gs,rfl,hk,hst⟩;have HK:=η48 hk;clear hk hst HS k0 k1;go_wp2_with fail;go_ret3;exact ⟨g,gs,rfl,HK.out⟩
theorem Blk.rd {w:World} {b:Nat} {t:TypeId} {cs:Array Value} (h:Blk w b t cs):Rd w (some ⟨b,0,none⟩) cs.toList:=fun j u hj=>⟨b,0,rfl,by rw[Nat.zero_add,h.cell j];simpa using hj⟩
theorem Blk.evs {w:World} {b:Nat} {t:TypeId} {L:List Ev} (h:Blk w b t (q7S L).toArray) {k:Nat} (hk:k≤L.length) (hl:L.length≤1000000):Evs w (some ⟨b,0,none⟩) k L.length (L.take k):=by
 refine ⟨by rw[List.length_take];omega,hk,by omega,(fun e=>by cases e),?_⟩;have h1:=h.rd.take (k*3);have e:(q7S L).take (k*3)=q7S (L.take k):=by
  conv=>lhs;rw[←List.take_append_drop k L,q8N]
  exact List.take_left' (by rw[q9I,List.length_take];omega)
 rw[←e]
 simpa using h1
theorem q4A {w:World} {B:Nat} {e:TypeId} {ao:Option Addr} {n cp:Nat} {L:List To} (h:w.ownsRow B e 5 (.slice ao n cp) L.length (q3K L)):Tos w ao n cp L∧n=L.length:=by
 obtain ⟨a,c,e1,h2⟩:=Tos.of_own (Own.of_row h)
 cases e1;exact ⟨h2,rfl⟩
abbrev evA :Ev:=⟨[97],[],0⟩
abbrev y1e :Ev:=⟨[98],[],0⟩
abbrev st1 :Bt:=⟨[115],0,[evA,y1e]⟩
abbrev st2 :Bt:=⟨[115],2,[evA]⟩
theorem y4a :y0u [] [115] (-1) [evA,y1e]=0:=by decide
theorem y4g :y0u [st1] [115] (-1) [evA]=80:=by decide
theorem y4i :y0u [st1] [115] 1 [evA]=0:=by decide
theorem y4c :z1p [st1,st2] [115]=(2,0):=by decide
theorem y4e :y1D [st1,st2] [115] 1 9=[⟨[115],1,y1e⟩,⟨[115],2,evA⟩]:=rfl
theorem y4Z :y0o [st1,st2] [115] 1 9=[⟨[115],1,y1e⟩,⟨[115],0,evA⟩]:=rfl
theorem y4Y :q3u [115] 1 9=0:=by decide
theorem q7k {L:List Ev} (h: ∀e∈L,e.ty.length≤300∧e.da.length≤300):q5N L:=fun e he=>by have:=h e he;omega
theorem z4p (w:World):Calls Tryz.prog 22 #[] w fun e w'=>e= .returned (.bool true)∧Ext w w':=by
 have HO:=η48 (z5L 0 0 5000 w (by decide) (by decide) (by decide) (by decide));go_enter Tryz.func22,Tryz.ntmps22;go_wp2_with fail;refine HO.out.mono ?_;rintro e w1 ⟨g,gs,rfl,hk⟩;have hx1:=q0D w1 (.cells #[.string ⟨#[97]⟩,.string ⟨#[]⟩,.float .f64 0,.string ⟨#[98]⟩,.string ⟨#[]⟩,.float .f64 0] 48);obtain ⟨q,hq⟩: ∃q,w1.heap.size=q:=⟨_,rfl⟩
 have hbk:Blk (w1.alloc (.cells #[.string ⟨#[97]⟩,.string ⟨#[]⟩,.float .f64 0,.string ⟨#[98]⟩,.string ⟨#[]⟩,.float .f64 0] 48)) q 48 (q7S [evA,y1e]).toArray:=hq▸Blk.new w1 _ _;have hk2:=hk.more (K':=fun i=>i=q) hx1 fun i hi=> .inr (by rw[World.size_alloc];omega)
 have HB:=η48 hbk;have HK2:=η48 hk2;have HE2:Hid (∀W,Stay (fun i=>i=q) (w1.alloc (.cells #[.string ⟨#[97]⟩,.string ⟨#[]⟩,.float .f64 0,.string ⟨#[98]⟩,.string ⟨#[]⟩,.float .f64 0] 48)) W→Evs W (some ⟨q,0,none⟩) 2 2 [evA,y1e]∧Evs W (some ⟨q,0,none⟩) 1 2 [evA]):=η48 fun W hs=>
  ⟨(hbk.same (hs q rfl)).evs (k:=2) (Nat.le_refl _) (by decide),(hbk.same (hs q rfl)).evs (k:=1) (by decide) (by decide)⟩
 have HA1:=η48 (hk2.append (by omega) [115] (by decide) (-1) (L:=[evA,y1e]) (fun W _ hs=>(HE2.out W hs).1) (q7k (by decide)) (by decide) y4a);clear hk hx1 hbk hk2 HO;go_wp2_with fail;refine HA1.out.mono ?_;rintro e w2 ⟨x,y,bs',rfl,hk,hst,hres⟩;obtain ⟨rfl,rfl,rfl⟩:x=0∧y=0∧bs'=[st1]:=by
  rcases hres with ⟨h,_⟩|⟨_,_,_,_,h⟩|⟨_,rfl,rfl,rfl⟩
  ·exact absurd rfl h
  ·exact absurd h (by decide)
  ·exact ⟨rfl,rfl,rfl⟩
 have HS2:=η48 hst;have HA2:=η48 (hk.append (by omega) [115] (by decide) (-1) (L:=[evA]) (fun W _ hs=>(HE2.out W (HS2.out.trans hs)).2) (q7k (by decide)) (by decide) y4g);clear hk hst hres HA1;go_wp2_with fail;refine HA2.out.mono ?_;rintro e w3 ⟨x,y,bs',rfl,hk,hst,hres⟩;obtain ⟨rfl,rfl,rfl⟩:x=0∧y=80∧bs'=[st1]:=by
  rcases hres with ⟨_,rfl,rfl,rfl⟩|⟨h,_⟩|⟨h,_⟩
  ·exact ⟨rfl,rfl,rfl⟩
  ·exact absurd h (by decide)
  ·exact absurd h (by decide)
 have HS3:=η48 (HS2.out.trans hst);have HA3:=η48 (hk.append (by omega) [115] (by decide) 1 (L:=[evA]) (fun W _ hs=>(HE2.out W (HS3.out.trans hs)).2) (q7k (by decide)) (by decide) y4i);clear hk hst hres HA2 HS2;go_wp2_with fail;refine HA3.out.mono ?_;rintro e w4 ⟨x,y,bs',rfl,hk,hst,hres⟩;obtain ⟨rfl,rfl,rfl⟩:x=2∧y=0∧bs'=[st1,st2]:=by
  rcases hres with ⟨h,_⟩|⟨_,_,_,_,h⟩|⟨_,rfl,rfl,rfl⟩
  ·exact absurd rfl h
  ·exact absurd h (by decide)
  ·exact ⟨rfl,rfl,rfl⟩
 have HL:=η48 (hk.last (by omega) [115] (by decide) y4c);clear hk hst hres HA3 HS3 HE2 HB HK2;go_wp2_with fail;refine HL.out.mono ?_;rintro e w5 ⟨rfl,hk,hst⟩;have HF:=η48 (hk.forward (by omega) [115] (by decide) 1 9 (by decide) (by decide));rw[y4e,y4Y] at HF;clear hk hst HL;go_wp2_with fail;refine HF.out.mono ?_;rintro e w6 ⟨v,rfl,hk,hst,hrow,hdj⟩;obtain ⟨va,vc,rfl⟩:=q0G hrow;have HR6:=η48 hrow;have HBk:=η48 (hk.backward (by omega) [115] (by decide) 1 9 (by decide) (by decide));rw[y4Z,y4Y] at HBk;clear hk hst hrow hdj HF;go_wp2_with fail;refine HBk.out.mono ?_;rintro e w7 ⟨v2,rfl,hk,hst,hrow2,hdj⟩;obtain ⟨ba,bc,rfl⟩:=q0G hrow2;obtain ⟨t1,_⟩:=q4A (q0b HR6.out fun i hi=>hst i (.inr hi));obtain ⟨t2,_⟩:=q4A hrow2;obtain ⟨b1,o1,rfl,c0,c1,c2,c3,c4⟩:=t1.at (i:=0) (by decide);obtain ⟨_,_,e1,d0,d1,d2,d3,d4⟩:=t1.at (i:=1) (by decide)
 cases e1;obtain ⟨b2,o2,rfl,f0,f1,f2,f3,f4⟩:=t2.at (i:=0) (by decide);obtain ⟨_,_,e1,g0,g1,g2,g3,g4⟩:=t2.at (i:=1) (by decide)
 cases e1;have HX:=η48 hk.base;clear hk hst hrow2 hdj t1 t2 HBk HR6;go_wp2_with fail;go_ret;exact ⟨rfl,HX.out⟩
end
section
open Go.RowKit
section
variable {wb w W W1 W2:World} {g gs rate u n:Nat} {sd c s:Int} {bs:List Bt} {K K':Nat→Prop}
theorem SK.row0 {m m1 sz base:Nat} {vq v2:Value} {ys ys1:List Value} {ti:TypeId} (h:SK wb W g gs rate sd c s u n bs (fun i=>K i∨vq.ownBlock=some i)) (hb:wb.heap.size≤base) (hq:W.ownsRow base ti sz vq m ys)
  (h2:W2.ownsRow base ti sz v2 m1 ys1) (g2:W.grownBy W2 vq.ownBlock) (a2:v2.ownBlock=vq.ownBlock∨v2.ownBlock=some W.heap.size) (hd: ∀i,K i→vq.ownBlock≠some i):
  SK wb W2 g gs rate sd c s u n bs (fun i=>K i∨v2.ownBlock=some i)∧Stay K W W2∧ ∀i,K i→v2.ownBlock≠some i:=by
 have s2:=g2.size;have hqb: ∀i,vq.ownBlock=some i→base≤i∧i<W.heap.size:=q0e hq;have e2: ∀i,i<W.heap.size→vq.ownBlock≠some i→W2.heap[i]? =W.heap[i]? :=fun i hi hn=>g2.block i hi fun e=>hn e.symm
 have hx0:=h.base;have hx2:Ext wb W2:=Below.grown hx0 g2 hx0.size fun k hk=>by have:=(hqb k hk).1;omega
 refine ⟨h.sideM s2 hx2 (fun i hi hn=>e2 i hi fun e=>hn (.inr e)) fun i hi=>?_,fun i hi=>e2 i (h.klt i (.inl hi)) (hd i hi),fun i hi e=>?_⟩
 ·rcases hi with hi|hi
  ·exact .inl (.inl hi)
  ·rcases a2 with k|k
   ·exact .inl (.inr (k.symm.trans hi))
   ·have hlt:=(q0e h2 i hi).2
    rw[k] at hi
    cases hi
    right;omega
 ·rcases a2 with k|k
  ·exact hd i hi (k.symm.trans e)
  ·rw[k] at e
   cases e;have:=h.klt _ (.inl hi);omega
theorem SK.row1 {m m1 sz base:Nat} {vq v2:Value} {ys ys1:List Value} {l2:Obj} {ti:TypeId} (h:SK wb W g gs rate sd c s u n bs (fun i=>K i∨vq.ownBlock=some i)) (hb:wb.heap.size≤base) (hq:W.ownsRow base ti sz vq m ys)
  (h2:W2.ownsRow base ti sz v2 m1 ys1) (g2:(W.alloc l2).grownBy W2 vq.ownBlock) (a2:v2.ownBlock=vq.ownBlock∨v2.ownBlock=some (W.alloc l2).heap.size) (hd: ∀i,K i→vq.ownBlock≠some i):
  SK wb W2 g gs rate sd c s u n bs (fun i=>K i∨v2.ownBlock=some i)∧Stay K W W2∧ ∀i,K i→v2.ownBlock≠some i:=by
 obtain ⟨h1,h3,h4⟩:=(h.grow (q0D W l2)).row0 hb (q0J hq (q0D W l2)) h2 g2 a2 hd;exact ⟨h1,fun i hi=>(h3 i hi).trans ((q0D W l2).block i (h.klt i (.inl hi))),h4⟩
end
def isSt (bs:List Bt) (s:List UInt8):Prop:=s.length≤300∧q3n s=true∧0<(q1J bs s).length
theorem isSt.snoc {bs:List Bt} {s:List UInt8} (h:isSt bs s) (b:Bt):isSt (bs++[b]) s:=by
 refine ⟨h.1,h.2.1,?_⟩;rw[q5E,List.length_append];have:=h.2.2;omega
theorem isSt.last {bs:List Bt} {b:Bt} (h:okBs (bs++[b])):isSt (bs++[b]) b.st:=by
 obtain ⟨_,h1,_⟩:=okBs_snoc.1 h;obtain ⟨h2,h3,h4,_⟩:=q0s h1.1;refine ⟨by omega,?_,?_⟩
 ·have h5:=List.length_pos_iff.2 h2
  unfold q3n;simp;omega
 ·rw[q7D,if_pos rfl,List.length_append]
  have:=List.length_pos_iff.2 h3;omega
theorem Tryz.infoS26 :(Tryz.prog.info? 9).map (fun i=>(i.zero,i.size,i.bytes))=some (some (.string ⟨#[]⟩),1,16):=by kernel_rfl
def strs (NL:List (List UInt8)):List Value:=NL.map fun s=> .string ⟨s.toArray⟩
theorem z6h (NL:List (List UInt8)) (s:List UInt8):strs (NL++[s])=strs NL++[.string ⟨s.toArray⟩]:=by unfold strs;rw[List.map_append];rfl
theorem y1v {NL:List (List UInt8)} {j:Nat} (h:j<NL.length):(strs NL)[j]? =some (.string ⟨(NL.getD j []).toArray⟩):=by
 unfold strs;rw[List.getElem?_map,List.getElem?_eq_getElem h,List.getD_eq_getElem?_getD,List.getElem?_eq_getElem h]
 rfl
theorem y2L {W:World} {B:Nat} {e:TypeId} {v:Value} {NL:List (List UInt8)} (h:W.ownsRow B e 1 v NL.length (strs NL)) {j:Nat} (hj:j<NL.length):
  ∃b off cap,v= .slice (some ⟨b,off,none⟩) NL.length cap∧NL.length≤cap∧cap≤9223372036854775807∧W.cell? ⟨b,off+j,none⟩=some (.string ⟨(NL.getD j []).toArray⟩):=by
 obtain ⟨ao,cap,rfl,h1,h2,h3,h4⟩:=(Own.of_row h).rd;obtain ⟨b,off,rfl,h5⟩:=h4 _ _ (y1v hj);exact ⟨b,off,cap,rfl,h1,h2,h5⟩
theorem z6z {α:Type} (p:α→Bool) (A:List α) (d:α) {k:Nat} (h:k<A.length):(A.take (k+1)).filter p=(A.take k).filter p++if p (A.getD k d)=true then [A.getD k d] else []:=by
 rw[List.take_succ_eq_append_getElem h,List.filter_append,List.getD_eq_getElem?_getD,List.getElem?_eq_getElem h];simp only[Option.getD_some];by_cases hp:p A[k]=true
 ·rw[if_pos hp,List.filter_cons_of_pos hp,List.filter_nil]
 ·rw[if_neg hp,List.filter_cons_of_neg hp,List.filter_nil]
theorem isSt.page {bs:List Bt} {s:List UInt8} (h:isSt bs s) {fr ct:Int} (h0:0≤fr) (h1:1≤ct):q3u s fr ct=0:=by
 unfold q3u;rw[if_neg (by rw[h.2.1];simp;omega)]
theorem isSt.fwd {bs:List Bt} {s:List UInt8} (h:isSt bs s) (a:Nat) {p:Nat} (h1:1≤p):(q7c bs s).take a++y1D bs s (a:Int) (p:Int)=(q7c bs s).take (a+p):=by
 unfold y1D;rw[if_pos (h.page (by omega) (by omega))];unfold z0L;rw[List.take_add];simp
theorem isSt.bwd {bs:List Bt} {s:List UInt8} (h:isSt bs s) {a:Int} (h0:0≤a) {p:Int} (h1:1≤p):((q7c bs s).drop (a+1).toNat).reverse++y0o bs s a p=((q7c bs s).drop (a-p+1).toNat).reverse:=by
 unfold y0o;rw[if_pos (h.page h0 h1)];unfold z2j;rw[←List.reverse_append]
 congr 1
 obtain ⟨x,hx⟩: ∃x,(a-p+1).toNat=x:=⟨_,rfl⟩
 obtain ⟨d,hd⟩: ∃d,(a+1).toNat=x+d:=⟨(a+1).toNat-x,by omega⟩
 rw[hx,hd,show x+d-x=d by omega,←List.drop_drop,List.take_append_drop]
theorem isSt.last' {bs:List Bt} {s:List UInt8} (h:isSt bs s):z1p bs s=(((q1J bs s).length:Int)-1,0):=by
 unfold z1p;rw[if_pos h.2.1]
end
section
open Go.RowKit
variable {w :World} {p:Option Addr}
end
section
open Go.RowKit
theorem z8o {A:List Acm} {m:Int} (h:q7O A m=false):(A.length:Int)≤m∧ ∀x∈A,x.st.length≤300∧x.n≤20∧ ∀e∈x.L,e.ty.length≤300∧e.da.length≤300:=by
 unfold q7O at h;rw[Bool.or_eq_false_iff] at h;refine ⟨by have:=of_decide_eq_false h.2;omega,fun x hx=>?_⟩;have h1:=List.any_eq_false.1 h.1 x hx;unfold q4B at h1;simp only[Bool.or_eq_true,not_or,decide_eq_true_eq] at h1;refine ⟨by omega,by omega,fun e he=>?_⟩;have h2:=List.any_eq_false.1 (by simpa using h1.2) e he;unfold q6O at h2;simp only[Bool.or_eq_true,not_or,decide_eq_true_eq] at h2;omega
end
section
open Go.RowKit
theorem q8z (x:To) (l:List Value) (j:Nat) (v:Value):(toc x++l).set (5+j) v=toc x++l.set j v:=by
 rw[List.set_append,q3T,if_neg (by omega),show 5+j-5=j by omega]
theorem z4x : ∀(T:List To) (i:Nat) (t:To),i<T.length→
  (((((q3K T).set (i*5) (.string ⟨t.s.toArray⟩)).set (i*5+1) (.int .i64 t.v)).set (i*5+2) (.string ⟨t.e.ty.toArray⟩)).set (i*5+3) (.string ⟨t.e.da.toArray⟩)).set (i*5+4) (.float .f64 t.e.we)=q3K (T.set i t)
 |[],i,t,h=>absurd h (Nat.not_lt_zero _)
 |x::r,0,t,_=>by rw[List.set_cons_zero,q3i,q3i];rfl
 | x::r,i+1,t,h=>by
  have ih:=z4x r i t (by simpa using h);rw[List.set_cons_succ,q3i,q3i,show (i+1)*5=5+i*5 by omega,Nat.add_assoc,Nat.add_assoc,Nat.add_assoc,Nat.add_assoc,q8z,q8z,q8z,q8z,q8z,ih]
def z5w (W:World) (b k:Nat) (t:To):World:=
 ((((W.setCell ⟨b,k,none⟩ (.string ⟨t.s.toArray⟩)).setCell ⟨b,k+1,none⟩ (.int .i64 t.v)).setCell ⟨b,k+2,none⟩ (.string ⟨t.e.ty.toArray⟩)).setCell ⟨b,k+3,none⟩ (.string ⟨t.e.da.toArray⟩)).setCell ⟨b,k+4,none⟩ (.float .f64 t.e.we)
theorem z5X {W:World} {B:Nat} {ti:TypeId} {b n cap:Nat} {T:List To} (h:W.ownsRow B ti 5 (.slice (some ⟨b,0,none⟩) n cap) n (q3K T)) {i:Nat} (hi:i<T.length) (t:To):
  (z5w W b (i*5) t).ownsRow B ti 5 (.slice (some ⟨b,0,none⟩) n cap) n (q3K (T.set i t)):=by
 rw[←z4x T i t hi];exact ((((((((h.stored _ _).1).stored _ _).1).stored _ _).1).stored _ _).1.stored _ _).1
theorem z2q (W:World) (b k:Nat) (t:To):(z5w W b k t).heap.size=W.heap.size:=by unfold z5w;simp[World.setCell]
theorem q5O (W:World) (b k:Nat) (t:To) {i:Nat} (hi:i≠b):(z5w W b k t).heap[i]? =W.heap[i]? :=by
 unfold z5w;rw[heap_setCell_other _ _ _ _ hi,heap_setCell_other _ _ _ _ hi,heap_setCell_other _ _ _ _ hi,heap_setCell_other _ _ _ _ hi,heap_setCell_other _ _ _ _ hi]
theorem z4Z {wb W:World} (h:Ext wb W) {b:Nat} (hb:wb.heap.size≤b) (k:Nat) (t:To):Ext wb (z5w W b k t):=
 Below.setCell (Below.setCell (Below.setCell (Below.setCell (Below.setCell h hb _) hb _) hb _) hb _) hb _
theorem SK.turned {wb W:World} {g gs rate u n:Nat} {sd c s:Int} {bs:List Bt} {K:Nat→Prop} {b m cap B:Nat} {ti:TypeId} {T:List To} (hB:wb.heap.size≤B)
  (h:SK wb W g gs rate sd c s u n bs (fun i=>K i∨(Value.slice (some ⟨b,0,none⟩) m cap).ownBlock=some i)) (hr:W.ownsRow B ti 5 (.slice (some ⟨b,0,none⟩) m cap) m (q3K T))
  (hd: ∀i,K i→(Value.slice (some ⟨b,0,none⟩) m cap).ownBlock≠some i) {i j:Nat} (hi:i<T.length) (hj:j<T.length) (x y:To):
  SK wb (z5w (z5w W b (i*5) x) b (j*5) y) g gs rate sd c s u n bs (fun i=>K i∨(Value.slice (some ⟨b,0,none⟩) m cap).ownBlock=some i)∧Stay K W (z5w (z5w W b (i*5) x) b (j*5) y)∧
   (z5w (z5w W b (i*5) x) b (j*5) y).ownsRow B ti 5 (.slice (some ⟨b,0,none⟩) m cap) m (q3K ((T.set i x).set j y)):=by
 have hbb:B≤b:=(q0e hr b rfl).1;refine ⟨h.sideM (by rw[z2q,z2q];exact Nat.le_refl _) (z4Z (z4Z h.base (by omega) _ _) (by omega) _ _) (fun k hk hn=>?_) fun k hk=> .inl hk,fun k hk=>?_,z5X (z5X hr hi x) (by simpa using hj) y⟩
 ·have hne:k≠b:=fun e=>hn (.inr (by rw[e];rfl))
  rw[q5O _ _ _ _ hne,q5O _ _ _ _ hne]
 ·have hne:k≠b:=fun e=>hd k hk (by rw[e];rfl)
  rw[q5O _ _ _ _ hne,q5O _ _ _ _ hne]
theorem z0O (W:World) (b k:Nat) (t:To):W.setCells b k (toc t)=z5w W b k t:=rfl
theorem z1l {W:World} {B:Nat} {ti:TypeId} {b n cap:Nat} {T:List To} (h:W.ownsRow B ti 5 (.slice (some ⟨b,0,none⟩) n cap) n (q3K T)) {i:Nat} (hi:i<T.length):W.there b (i*5) 5:=fun j hj=>by
 have hl:=h.1;rw[q3g] at hl;refine ⟨?_,h.frozenAt _⟩;rw[h.cellAt _ (by omega),q5B T i j hi hj,List.getElem?_eq_getElem (by rw[q3T];exact hj)]
 rfl
theorem z9S {W:World} {B:Nat} {e:TypeId} {sz n cap:Nat} {ao:Option Addr} {xs:List Value} (h:W.ownsRow B e sz (.slice ao n cap) n xs) (hn:0<n): ∃b,ao=some ⟨b,0,none⟩:=by
 rcases h.2 with ⟨h',h''⟩|⟨g,cap',cur,h',_⟩
 ·simp at h';omega
 ·simp only[Value.slice.injEq] at h'
  exact ⟨g,h'.1⟩
end
section
open Go.RowKit
theorem storepages_c {ao : Option Addr} {n cap:Nat} {A:List Acm} (sd:Int) (rate:Nat) (room:Int) (size:Int) (w:World) (hx:Acs w ao n cap A) (hs0:0≤sd) (hs1:sd<18446744073709551616) (hr0:0≤room) (hr1:room≤65535) (hz0:0≤size) (hz1:size≤255):
  Calls Tryz.prog 6 #[.slice ao n cap,.agg #[.int .u64 sd,.float .f64 rate,.int .u16 room],.int .u8 size] w fun e w'=>e= .returned (.bool true)∧Ext w w':=by
 have hx1:=q0D w (.cells #[.int .u64 sd,.float .f64 rate,.int .u16 room] 27);have hb1:=Blk.new w 27 #[.int .u64 sd,.float .f64 rate,.int .u16 room];have HG:=η48 (y1t 60 _ (hx.ext hx1));have HX:=η48 hx1;have HB1:=η48 hb1;have HA:=η48 (hx.ext hx1);have hlen:=hx.len;have bb1:=hx.fits;have bb2:=hx.bound;obtain ⟨z,hz⟩: ∃z,q7O A 60=z:=⟨_,rfl⟩
 rw[hz] at HG;clear hx hx1 hb1;go_enter Tryz.func6,Tryz.ntmps6;go_wp2_with fail;refine HG.out.mono ?_;rintro e w1 ⟨rfl,hx⟩;have HX1:=η48 (HX.out.trans hx);have HB2:=η48 (HB1.out.ext hx);have HA1:=η48 (HA.out.ext hx);clear hx HG HB1 HA HX
 cases z with
 | true=>
  go_wp2_with fail;refine (z4p w1).mono ?_;rintro e w2 ⟨rfl,hx⟩;have HX2:=η48 (HX1.out.trans hx);clear hx;go_wp2_with fail;go_ret;exact ⟨rfl,HX2.out⟩
 | false =>
  have hng:=z8o hz;have HNg:=η48 hng.2;have hn60:n≤60:=by have:=hng.1;omega
  have hc1:=HB2.out;have k0:=hc1.cell 0;have k1:=hc1.cell 1;have k2:=hc1.cell 2;have HO:=η48 (z5L sd rate room w1 hs0 hs1 hr0 hr1);clear hng hz hc1;go_wp2_with fail;refine HO.out.mono ?_;rintro e w2 ⟨g,gs,rfl,hk⟩;have HK:=η48 hk;have HX2:=η48 (HX1.out.trans hk.base);obtain ⟨c,hc⟩: ∃c,6000+room*4=c:=⟨_,rfl⟩
  rw[hc] at HK;have HK0:Hid (SK w1 w2 g gs rate sd c 0 0 0 [] (fun i=>False∨(Value.slice none 0 0).ownBlock=some i)):=η48 (HK.out.beside fun i hi=>by
   rcases hi with hi|hi
   ·exact hi.elim
   ·cases hi)
  clear hk HO k0 k1 k2 hc;go_wp2_with fail
  go_loopw [8,10,11] (fun os on oi W=> ∃(gs k m u:Nat) (bs:List Bt) (NL:List (List UInt8)) (vN:Value),os= .pointer (some ⟨gs,0,none⟩)∧on=vN∧oi= .int .i64 (k:Int)∧k≤n∧m≤k∧
   SK w1 W g gs rate sd c 0 u m bs (fun i=>False∨vN.ownBlock=some i)∧W.ownsRow w1.heap.size 9 1 vN NL.length (strs NL)∧NL.length≤5∧ ∀s∈NL,isSt bs s) (fun _ _ i _=>n-(intOf i).toNat)
  case atStart=>exact ⟨gs,0,0,0,[],[],_,rfl,rfl,rfl,Nat.zero_le _,Nat.le_refl _,HK0.out,⟨rfl,.inl ⟨rfl,rfl⟩⟩,by simp,fun s hs=>by cases hs⟩
  case round =>
   obtain ⟨gs,k,m,u,bs,NL,vN,rfl,rfl,rfl,hk,hm,hsk,hrow,hN5,hst⟩:=hrel;obtain ⟨na,nc,rfl⟩:=q0G hrow;have HK1:=η48 hsk;have HR1:=η48 hrow;have HSt:=η48 hst;have hb:=hsk.base;have HE:=η48 hb;clear hsk hrow hst;by_cases hlt:k<n
   ·have hd:decide ((k:Int)<(n:Int))=true:=decide_eq_true (by omega)
    have hki:(k:Int)<(n:Int):=by omega
    have q8:IntKind.i64.wrap ((k:Int)+1)=(k:Int)+1:=by rw[IntKind.wrap_i64];omega
    obtain ⟨bb,off,rfl,c0,c1,c2,c3,c4,hev,hok⟩:=(HA1.out.ext hb).at hlt;have hng:=HNg.out (A.getD k ac0) (z0J (by omega));have hev2: ∀W,Ext w1 W→Evs W (A.getD k ac0).ao (A.getD k ac0).n (A.getD k ac0).cap (A.getD k ac0).L:=fun W kk=>by
     obtain ⟨_,_,_,_,_,_,_,_,h9,_⟩:=(HA1.out.ext kk).at hlt;exact h9
    generalize A.getD k ac0=x at*;obtain ⟨kd,st,xa,xb,eao,en,ecap,L⟩:=x;simp only at c0 c1 c2 c3 c4 hev hng hev2;have HEv:=η48 hev2;have hwe: ∀e∈L,e.we<18446744073709551616:=fun e he=>(hok.e e he).2.2
    have HWe:=η48 hwe;clear hev2 hwe hev;obtain ⟨q,hq⟩: ∃q,wr.heap.size=q:=⟨_,rfl⟩
    have hxb:=q0D wr (.cells #[.int .u8 kd,.string ⟨st.toArray⟩,.int .i64 xa,.int .i64 xb,.slice eao en ecap] 30);have hbk:=Blk.new wr 30 #[.int .u8 kd,.string ⟨st.toArray⟩,.int .i64 xa,.int .i64 xb,.slice eao en ecap];rw[hq] at hbk;have HBk:=η48 hbk;have hsk2:=HK1.out.more (K':=fun i=>(i=q∨(Value.slice na NL.length nc).ownBlock=some i)) hxb (fun i hi=>hi.symm.imp .inr fun e=>by rw[World.size_alloc];omega);have HK2:=η48 hsk2;have HR2:=η48 (q0J HR1.out hxb);have HXb:=η48 hxb;have hdone: ∀(W:World) (gs' m' u':Nat) (bs':List Bt),m'≤k+1→SK w1 W g gs' rate sd c 0 u' m' bs' (fun i=>i=q∨(Value.slice na NL.length nc).ownBlock=some i)→Stay (fun i=>i=q∨(Value.slice na NL.length nc).ownBlock=some i) (wr.alloc (.cells #[.int .u8 kd,.string ⟨st.toArray⟩,.int .i64 xa,.int .i64 xb,.slice eao en ecap] 30)) W→(∀s∈NL,isSt bs' s)→
      ∃(gs k1 m u:Nat) (bs:List Bt) (NL1:List (List UInt8)) (vN:Value),Value.pointer (some ⟨gs',0,none⟩)= .pointer (some ⟨gs,0,none⟩)∧Value.slice na NL.length nc=vN∧Value.int .i64 ((k:Int)+1)= .int .i64 (k1:Int)∧k1≤n∧m≤k1∧
   SK w1 W g gs rate sd c 0 u m bs (fun i=>False∨vN.ownBlock=some i)∧W.ownsRow w1.heap.size 9 1 vN NL1.length (strs NL1)∧NL1.length≤5∧ ∀s∈NL1,isSt bs s:=fun W gs' m' u' bs' hm' h1 h2 h3=>
     ⟨gs',k+1,m',u',bs',NL,_,rfl,rfl,by go_num,by omega,hm',h1.beside fun i hi=>hi.elim (fun e=>e.elim) .inr,q0b HR2.out fun i hi=>h2 i (.inr hi),hN5,h3⟩
    have HDn:=η48 hdone;have hm86:m≤86:=by omega
    have HQ:=η48 hq;obtain ⟨zz,hzz⟩: ∃zz,kd.tmod 8=zz:=⟨_,rfl⟩
    clear hsk2 hxb hbk hb hq hdone;by_cases h5:zz=5
    ·have d5:(zz==(5:Int))=true:=by rw[h5];rfl
     have HI:=η48 (HK2.out.index hm86);clear h5;go_wp2_with fail;refine HI.out.mono ?_;rintro e w3 ⟨y,rfl,_,h1,h2⟩;have H1:=η48 h1;have H2:=η48 h2;clear h1 h2 HI;go_wp2_with fail
     go_roundw
     case rel=>exact HDn.out _ _ _ _ _ (by omega) H1.out H2.out HSt.out
     case measure=>simp[intOf];omega
    have d5:(zz==(5:Int))=false:=by simpa using h5
    by_cases h6:zz=6
    ·have d6:(zz==(6:Int))=true:=by rw[h6];rfl
     have HI:=η48 (fun v=>HK2.out.merge hm86 v);clear h5 h6;go_wp2_with fail;refine (HI.out _).mono ?_;rintro e w3 ⟨y,rfl,_,h1,h2⟩;have H1:=η48 h1;have H2:=η48 h2;clear h1 h2 HI;go_wp2_with fail
     go_roundw
     case rel=>exact HDn.out _ _ _ _ _ (by omega) H1.out H2.out HSt.out
     case measure=>simp[intOf];omega
    have d6:(zz==(6:Int))=false:=by simpa using h6
    by_cases h7:zz=7
    ·have d7:(zz==(7:Int))=true:=by rw[h7];rfl
     have HI:=η48 (HK2.out.disk.open (by omega) rate);have hc1:=(HB2.out.ext HE.out).ext HXb.out;have k0:=hc1.cell 0;have k1:=hc1.cell 1;clear h5 h6 h7 hc1;go_wp2_with fail;refine HI.out.mono ?_;rintro e w3 ⟨gs',rfl,h1,h2⟩;have H1:=η48 h1;have H2:=η48 h2;clear h1 h2 HI k0 k1;go_wp2_with fail
     go_roundw
     case rel=>exact HDn.out _ _ _ _ _ (by omega) H1.out H2.out HSt.out
     case measure=>simp[intOf];omega
    have d7:(zz==(7:Int))=false:=by simpa using h7
    have hngx:=hng;have HAp:=η48 (HK2.out.append hm86 st (by omega) (-2) (L:=L) (fun W kk _=>HEv.out W kk) (q7k hngx.2.2) HWe.out (z:=y0u bs st (-2) L) rfl);clear h5 h6 h7 hngx hng HWe HEv;go_wp2_with fail;refine HAp.out.mono ?_;rintro e w3 ⟨x,y,bs',rfl,h1,h2,h3⟩;have H1:=η48 h1;have H2:=η48 h2;have hy:(y≠0∧bs'=bs)∨(y=0∧bs'=bs++[⟨st,(q1J bs st).length,L⟩]):=by
     rcases h3 with ⟨h3,_,rfl,h4⟩|⟨_,_,rfl,h4,_⟩|⟨_,_,rfl,h4⟩
     ·exact .inl ⟨h3,h4⟩
     ·exact .inl ⟨by decide,h4⟩
     ·exact .inr ⟨rfl,h4⟩
    have hc1:=HBk.out.same (h2 q (.inl rfl));have hr3:=q0b HR2.out fun i hi=>h2 i (.inr hi)
    have hbs3:=h1.base.size;have HC3:=η48 hc1;have HR3:=η48 hr3;have HBs:=η48 hbs3;clear h1 h2 h3 HAp hc1 hr3 hbs3;rcases hy with ⟨hy,rfl⟩|⟨rfl,hbs⟩
    ·have dy:(y==(0:Int))=false:=by simpa using hy
     clear hy;go_wp2_with fail
     go_roundw
     case rel=>exact HDn.out _ _ _ _ _ (by omega) H1.out H2.out HSt.out
     case measure=>simp[intOf];omega
    ·have HSt2:Hid (∀s∈NL,isSt bs' s):=η48 fun s hs=>by rw[hbs];exact (HSt.out s hs).snoc _
     have HL2:Hid (isSt bs' st):=η48 (by have:=H1.out.ok;rw[hbs] at this⊢;exact isSt.last this);clear hbs;by_cases hfew:NL.length<5
     ·have df:decide ((NL.length:Int)<(5:Int))=true:=decide_eq_true (by omega)
      have k1:=HC3.out.cell 1;rw[←HQ.out] at k1
      go_wp2_with (at_builtin;refine q0K rfl _ _ 70 rfl w1.heap.size 9 _ 1 16 Tryz.underlying70 Tryz.infoS26 (by decide) (by decide) _ NL.length (strs NL) rfl (q0J HR3.out (q0D _ _)) _ 1 1 [.string ⟨st.toArray⟩] rfl rfl (fun h=>by cases h) (Rd.lit _ _ _) (by simp[Value.oneCell']) (by unfold maxLen;omega) (by omega) (by have:=HBs.out;simp;omega) ?_;intro v2 w8 hown hgrow hat;obtain ⟨a2,k2,rfl⟩:=q0G hown;have HO:=η48 hown;have HR:=η48 (SK.row1 (K:=fun _=>False) (H1.out.beside fun i hi=>hi.elim (fun e=>e.elim) .inr) (Nat.le_refl _) HR3.out hown hgrow hat (fun i hi=>hi.elim));clear hown hgrow hat)
      go_roundw
      case rel=>
       refine ⟨gs,k+1,m+1,u+2024,bs',NL++[st],_,rfl,rfl,by go_num,by omega,by omega,HR.out.1,?_,by rw[List.length_append,List.length_singleton];omega,fun s hs=>?_⟩
       ·rw[z6h,List.length_append];exact HO.out
       ·rcases List.mem_append.1 hs with hs|hs
        ·exact HSt2.out s hs
        ·rw[List.mem_singleton.1 hs];exact HL2.out
      case measure=>simp[intOf];omega
     ·have df:decide ((NL.length:Int)<(5:Int))=false:=decide_eq_false (by omega)
      go_wp2_with fail
      go_roundw
      case rel=>exact HDn.out _ _ _ _ _ (by omega) H1.out H2.out HSt2.out
      case measure=>simp[intOf];omega
   ·obtain rfl : k = n := by omega
    have hd:decide ((k:Int)<(k:Int))=false:=decide_eq_false (by omega);have HAl:=η48 (HK1.out.all (by omega));clear hb HNg HA1 HK HK0 hlt;go_wp2_with fail;refine HAl.out.mono ?_;rintro e w3 ⟨vA,rfl,h1,h2,h3,h4⟩;obtain ⟨aa,ac,rfl⟩:=q0G h3;have HRN:=η48 (q0b HR1.out fun i hi=>h2 i (.inr hi));have HRA:=η48 h3;obtain ⟨KA,hKA⟩: ∃K:Nat→Prop,(fun i=>(False∨(Value.slice na NL.length nc).ownBlock=some i)∨(Value.slice aa (tos bs).length ac).ownBlock=some i)=K:=⟨_,rfl⟩
    have HKN:Hid (∀i,(Value.slice na NL.length nc).ownBlock=some i→KA i):=η48 fun i hi=>by rw[←hKA];exact .inl (.inr hi)
    have HKA:Hid (∀i,(Value.slice aa (tos bs).length ac).ownBlock=some i→KA i):=η48 fun i hi=>by rw[←hKA];exact .inr hi
    rw[hKA] at h1;have HK3:=η48 h1;have hfew:=h1.few;have hlA:(tos bs).length≤1000:=by omega
    have q6:IntKind.i64.wrap size=size:=by rw[IntKind.wrap_i64];omega
    obtain ⟨p7,hp7⟩: ∃p7,size.tmod 7=p7:=⟨_,rfl⟩
    have hp0:0≤p7∧p7≤6:=by rw[←hp7,Int.tmod_eq_emod_of_nonneg hz0];omega
    obtain ⟨P,hP⟩: ∃P:Nat,1+p7=(P:Int):=⟨(1+p7).toNat,by omega⟩
    have hP1:1≤P∧P≤7:=by omega
    have q7:IntKind.i64.wrap (1+p7)=(P:Int):=by rw[IntKind.wrap_i64];omega
    obtain ⟨np,hnp⟩: ∃np,NL.length=np:=⟨_,rfl⟩
    obtain ⟨nA,hnA⟩: ∃nA,(tos bs).length=nA:=⟨_,rfl⟩
    rw[hnA] at hlA;have HTA:Hid (∀W,Stay KA w3 W→Tos W aa nA ac (tos bs)):=η48 fun W kk=>by
     have:=(q4A (q0b HRA.out fun i hi=>kk i (HKA.out i hi))).1
     rwa [hnA] at this
    clear hKA h1 h2 h3 h4 HAl HR1 HK1 hfew hp0 hP;go_wp2_with fail
    go_loopw [20] (fun oi W=> ∃j:Nat,oi= .int .i64 (j:Int)∧j≤np∧SK w1 W g gs rate sd c 0 u m bs KA∧Stay KA w3 W) (fun i _=>np-(intOf i).toNat)
    case atStart=>exact ⟨0,rfl,Nat.zero_le _,HK3.out,Stay.refl _ _⟩
    case round =>
     obtain ⟨j,rfl,hj,hsk,hsy⟩:=hrel;have HKj:=η48 hsk;have HSj:=η48 hsy;have HEj:=η48 hsk.base;by_cases hjl:j<np
     ·have hd2 : decide ((j:Int)<(np:Int))=true:=decide_eq_true (by omega)
      have q8:IntKind.i64.wrap ((j:Int)+1)=(j:Int)+1:=by rw[IntKind.wrap_i64];omega
      have hsx:=HSt.out (NL.getD j []) (z0J (by omega));have HRj:Hid (∀W,Stay KA w3 W→ ∃b off cap,(Value.slice na np nc)= .slice (some ⟨b,off,none⟩) np cap∧np≤cap∧cap≤9223372036854775807∧W.cell? ⟨b,off+j,none⟩=some (.string ⟨(NL.getD j []).toArray⟩)):=η48 fun W kk=>by
       have:=y2L (q0b HRN.out fun i hi=>kk i (HKN.out i hi)) (j:=j) (by omega)
       rwa [hnp] at this
      generalize NL.getD j []=nm at*;have HSx:=η48 hsx;clear hsk hsy hsx;go_wp2_with fail
      go_loopw [21,24] (fun ow ok W=> ∃(k1:Nat) (vW:Value) (OL:List To),ok= .int .i64 (k1:Int)∧k1≤nA∧ow=vW∧Hid (((tos bs).take k1).filter (fun t=>decide (t.s=nm))=OL)∧SK w1 W g gs rate sd c 0 u m bs (fun i=>KA i∨vW.ownBlock=some i)∧Stay KA w3 W∧
       W.ownsRow w1.heap.size 76 5 vW OL.length (q3K OL)∧ ∀i,KA i→vW.ownBlock≠some i) (fun _ i _=>nA-(intOf i).toNat)
      case atStart=>exact ⟨0,_,[],rfl,Nat.zero_le _,rfl,η48 (by simp),HKj.out.beside fun i hi=>(by rcases hi with hi|hi;exact hi;cases hi),HSj.out,⟨rfl,.inl ⟨rfl,rfl⟩⟩,fun i _ e=>by cases e⟩
      case round =>
       obtain ⟨k1,vW,OL,rfl,hk1,rfl,HF,hsk,hsy,hrow,hdj⟩:=hrel;obtain ⟨oa,oc,rfl⟩:=q0G hrow;have hle:OL.length≤k1:=by rw[←HF.out];exact Nat.le_trans (List.length_filter_le _ _) (by rw[List.length_take];omega)
       by_cases hlt:k1<nA
       ·have hd3:decide ((k1:Int)<(nA:Int))=true:=decide_eq_true (by omega)
        have hki:(k1:Int)<(nA:Int):=by omega
        have hji:(j:Int)<(np:Int):=by omega
        have q9:IntKind.i64.wrap ((k1:Int)+1)=(k1:Int)+1:=by rw[IntKind.wrap_i64];omega
        have hst3:Stay KA w3 wr.drew:=fun i hi=>((hsk.kExt (Ext.refl _).drew) i (.inl hi)).trans (hsy i hi)
        obtain ⟨nb,nof,ncp,en,n1,n2,nc1⟩:=HRj.out _ hst3
        cases en;have hta:=HTA.out _ hst3;have t1:=hta.fits;have t2:=hta.bound;obtain ⟨ab,aof,rfl,a0,a1,a2,a3,a4⟩:=hta.at hlt;have hfs:=z6z (fun t:To=>decide (t.s=nm)) (tos bs) to0 (k:=k1) (by omega);rw[HF.out] at hfs;generalize (tos bs).getD k1 to0=t at*;obtain ⟨ts,tv,⟨ty,da,we⟩⟩:=t;simp only at a0 a1 a2 a3 a4 hfs;have HFs:=η48 hfs;have HRo:=η48 (q0J hrow (Ext.refl _).drew);have HKo:=η48 (hsk.grow (Ext.refl _).drew);have HKw:=η48 hsk;have HSw:=η48 hst3;have HSw0:=η48 hsy;have HDj:=η48 hdj;have HRw:=η48 hrow;have HBs:Hid (w1.heap.size≤wr.drew.heap.size):=η48 (hsk.grow (Ext.refl _).drew).base.size;have HBs2:Hid (w1.heap.size≤wr.heap.size):=η48 hsk.base.size;have kx:=(q0D wr (.cells #[.string ⟨ts.toArray⟩,.int .i64 tv,.string ⟨ty.toArray⟩,.string ⟨da.toArray⟩,.float .f64 we] 76)).drew;have HKx:=η48 (hsk.grow kx);have hrx:=q0J hrow kx;have HRl:Hid (Rd (wr.alloc (.cells #[.string ⟨ts.toArray⟩,.int .i64 tv,.string ⟨ty.toArray⟩,.string ⟨da.toArray⟩,.float .f64 we] 76)).drew (some ⟨wr.heap.size,0,none⟩) (toc ⟨ts,tv,⟨ty,da,we⟩⟩)):=η48 (Rd.lit wr #[.string ⟨ts.toArray⟩,.int .i64 tv,.string ⟨ty.toArray⟩,.string ⟨da.toArray⟩,.float .f64 we] 76)
        obtain ⟨no,hno⟩: ∃no,OL.length=no:=⟨_,rfl⟩
        rw[hno] at HRo hle hrx;have HRx:=η48 hrx;clear hsk hsy hrow hdj hst3 hta hfs kx hrx;by_cases hs:ts=nm
        ·subst hs
         have e3:(ts==ts)=true:=beq_self_eq_true ts;have hsf:=q3O;go_wp2_with fail
         go_region
         all_goals
          go_wp2_with (at_builtin;refine q0K rfl _ _ 54 rfl w1.heap.size 76 _ 5 64 Tryz.underlying54 Tryz.infoTo (by decide) (by decide) _ no (q3K OL) rfl HRx.out _ 1 1 (toc ⟨ts,tv,⟨ty,da,we⟩⟩) rfl rfl (fun h=>by cases h) HRl.out (by unfold toc;simp[Value.oneCell']) (by unfold maxLen;omega) (by omega) (by have:=HBs.out;have:=HBs2.out;simp;omega) ?_;intro v2 w8 hown hgrow hat;obtain ⟨a2,k2,rfl⟩:=q0G hown;have HO:=η48 hown;have HR:=η48 (SK.row0 (K:=KA) (vq:= .slice oa no oc) (by rw[←hno];exact HKx.out) (Nat.le_refl _) HRx.out hown hgrow hat (by rw[←hno];exact HDj.out));clear hown hgrow hat)
          go_roundw
          case rel=>
           refine ⟨k1+1,_,OL++[⟨ts,tv,⟨ty,da,we⟩⟩],by go_num,by omega,rfl,η48 (by rw[HFs.out];simp),HR.out.1,fun i hi=>((HR.out.2.1 i hi).trans ((HKw.out.kExt (q0D wr _).drew) i (.inl hi))).trans (HSw0.out i hi),?_,HR.out.2.2⟩;rw[q9R,List.length_append,hno];exact HO.out
          case measure=>simp[intOf];omega
        ·have e1:decide (ts=nm)=false:=decide_eq_false hs
         have e3:(ts==nm)=false:=beq_eq_false_iff_ne.2 hs;go_wp2_with fail
         go_region
         all_goals
          go_wp2_with fail
          go_roundw
          case rel=>exact ⟨k1+1,_,OL,by go_num,by omega,rfl,η48 (by rw[HFs.out];simp[hs]),HKo.out,HSw.out,by rw[hno];exact HRo.out,HDj.out⟩
          case measure=>simp[intOf];omega
       ·obtain rfl : k1=nA:=by omega
        have hd3:decide ((k1:Int)<(k1:Int))=false:=decide_eq_false (by omega);have hT:OL=q7c bs nm:=by
         have:=HF.out;rw[List.take_of_length_le (by omega),q8b hsk.ok] at this;exact this.symm
        have hN:OL.length=(q1J bs nm).length:=by rw[hT,q5o]
        have hN0:=HSx.out.2.2;obtain ⟨N,hNN⟩: ∃N,OL.length=N:=⟨_,rfl⟩
        rw[hNN] at hrow hsk hdj hle⊢;have hla:=HSx.out.last';rw[←hN,hNN] at hla;have hNp:1≤N:=by omega
        have HLa:=η48 (hsk.last (by omega) nm (by have:=HSx.out.1;omega) hla);have HT:=η48 hT;have HRw:=η48 hrow;have HDj:=η48 hdj;have HKw:=η48 hsk;have HSw:=η48 hsy;have HN:=η48 hNN;obtain ⟨nb,nof,ncp,en,n1,n2,nc1⟩:=HRj.out _ hsy
        cases en;have hji:(j:Int)<(np:Int):=by omega
        have q9:IntKind.i64.wrap ((N:Int)-1)=(N:Int)-1:=by rw[IntKind.wrap_i64];omega
        have hN9:((N:Int)==0)=false:=beq_eq_false_iff_ne.2 (by omega);clear hsk hsy hrow hdj hT hN hN0 hla HF hlt hNN;go_wp2_with fail;refine HLa.out.mono ?_;rintro e w4 ⟨rfl,h1,h2⟩;have HK4:=η48 h1;have HS4:Hid (Stay KA w3 w4):=η48 fun i hi=>(h2 i (.inl hi)).trans (HSw.out i hi)
        have HR4:=η48 (q0b HRw.out fun i hi=>h2 i (.inr hi));clear h1 h2 HLa nc1 HKw HRw;obtain ⟨KW,hKW⟩: ∃K:Nat→Prop,(fun i=>KA i∨(Value.slice oa N oc).ownBlock=some i)=K:=⟨_,rfl⟩
        have HWA:Hid (∀i,KA i→KW i):=η48 fun i hi=>by rw[←hKW];exact .inl hi
        have HWW:Hid (∀i,(Value.slice oa N oc).ownBlock=some i→KW i):=η48 fun i hi=>by rw[←hKW];exact .inr hi
        rw[hKW] at HK4;clear hKW;go_wp2_with fail
        go_loopw [22,27] (fun oo oat W=> ∃(a:Nat) (vO:Value) (OA:List To),oat= .int .i64 (a:Int)∧a≤N+7∧oo=vO∧Hid (OL.take a=OA)∧SK w1 W g gs rate sd c 0 u m bs (fun i=>KW i∨vO.ownBlock=some i)∧Stay KW w4 W∧
         W.ownsRow w1.heap.size 76 5 vO OA.length (q3K OA)∧ ∀i,KW i→vO.ownBlock≠some i) (fun _ i _=>N+8-(intOf i).toNat)
        case atStart=>exact ⟨0,_,[],rfl,Nat.zero_le _,rfl,η48 (by simp),HK4.out.beside fun i hi=>(by rcases hi with hi|hi;exact hi;cases hi),Stay.refl _ _,⟨rfl,.inl ⟨rfl,rfl⟩⟩,fun i _ e=>by cases e⟩
        case round =>
         obtain ⟨a,vO,OA,rfl,ha,rfl,HOA,hsk,hsy,hrow,hdj⟩:=hrel;obtain ⟨pa,pc,rfl⟩:=q0G hrow;have hla:OA.length≤N:=by rw[←HOA.out,List.length_take,HN.out];omega
         by_cases hlt:a<N
         ·have hd4:decide ((a:Int)<(N:Int))=true:=decide_eq_true (by omega)
          have q10:IntKind.i64.wrap ((a:Int)+(P:Int))=(a:Int)+(P:Int):=by rw[IntKind.wrap_i64];omega
          have hst3:Stay KA w3 wr:=fun i hi=>(hsy i (HWA.out i hi)).trans (HS4.out i hi)
          obtain ⟨nb,nof,ncp,en,n1,n2,nc1⟩:=HRj.out _ hst3
          cases en;have hji:(j:Int)<(np:Int):=by omega
          have hfw:=hsk.forward (by omega) nm (by have:=HSx.out.1;omega) (a:Int) (P:Int) (by omega) (by omega);rw[HSx.out.page (by omega) (by omega)] at hfw;have hF:=HSx.out.fwd a (p:=P) (by omega);rw[←HT.out,HOA.out] at hF;obtain ⟨F,hF0⟩: ∃F,y1D bs nm (a:Int) (P:Int)=F:=⟨_,rfl⟩
          rw[hF0] at hfw hF;have hFl:OA.length+F.length≤N:=by rw[←List.length_append,hF,List.length_take,HN.out];omega
          have HF:=η48 hF;have HFw:=η48 hfw;have HKw:=η48 hsk;have HSw:=η48 hsy;have HRw:=η48 hrow;have HDj:=η48 hdj;obtain ⟨no,hno⟩: ∃no,OA.length=no:=⟨_,rfl⟩
          have HNo:=η48 hno;rw[hno] at hFl hla HRw HFw HKw HDj⊢;clear hsk hsy hrow hdj hst3 hfw hF hF0 hno;go_wp2_with fail;refine HFw.out.mono ?_;rintro e w5 ⟨vF,rfl,h1,h2,h3,h4⟩;obtain ⟨fa,fc,rfl⟩:=q0G h3;have htf:=(q4A h3).1;have HK5:=η48 (h1.beside fun i hi=> .inl hi);have HS5:=η48 h2;have HR5:=η48 (q0b HRw.out fun i hi=>h2 i (.inr hi));have HRd:=η48 htf.rd;have HNil:=η48 htf.nil;have HBs:=η48 h1.base.size;obtain ⟨nf,hnf⟩: ∃nf,F.length=nf:=⟨_,rfl⟩
          have HNf:=η48 hnf;rw[hnf] at hFl⊢;clear h1 h2 h3 h4 htf HFw nc1 hnf
          go_wp2_with (at_builtin;refine q0K rfl _ _ 54 rfl w1.heap.size 76 _ 5 64 Tryz.underlying54 Tryz.infoTo (by decide) (by decide) _ no (q3K OA) rfl HR5.out _ nf fc (q3K F) rfl (by rw[q3g,HNf.out]) HNil.out HRd.out (z0i F) (by unfold maxLen;omega) (by omega) HBs.out ?_;intro v2 w8 hown hgrow hat;obtain ⟨a2,k2,rfl⟩:=q0G hown;have HO:=η48 hown;have HR:=η48 (SK.row0 (K:=KW) (vq:= .slice pa no pc) HK5.out (Nat.le_refl _) HR5.out hown hgrow hat HDj.out);clear hown hgrow hat)
          go_roundw
          case rel=>
           refine ⟨a+P,_,OA++F,by go_num,by omega,rfl,η48 HF.out.symm,HR.out.1,fun i hi=>((HR.out.2.1 i hi).trans (HS5.out i (.inl hi))).trans (HSw.out i hi),?_,HR.out.2.2⟩;rw[q5t,List.length_append,HNo.out,HNf.out];exact HO.out
          case measure=>simp[intOf];omega
         ·have hd4 : decide ((a:Int)<(N:Int))=false:=decide_eq_false (by omega)
          have hOA:OA=OL:=by rw[←HOA.out,List.take_of_length_le (by rw[HN.out];omega)]
          subst hOA;have hrow2:=hrow;rw[HN.out] at hsk hrow hdj hrow2⊢;have HRO:=η48 hrow2;have HRW:=η48 (q0b HR4.out fun i hi=>hsy i (HWW.out i hi));have hst3:Stay KA w3 wr:=fun i hi=>(hsy i (HWA.out i hi)).trans (HS4.out i hi)
          have HS3:=η48 hst3;obtain ⟨KO,hKO⟩: ∃K:Nat→Prop,(fun i=>KW i∨(Value.slice pa N pc).ownBlock=some i)=K:=⟨_,rfl⟩
          have HOW:Hid (∀i,KW i→KO i):=η48 fun i hi=>by rw[←hKO];exact .inl hi
          have HOO:Hid (∀i,(Value.slice pa N pc).ownBlock=some i→KO i):=η48 fun i hi=>by rw[←hKO];exact .inr hi
          rw[hKO] at hsk;have HK6:=η48 hsk;clear hKO hsk hsy hrow hdj hrow2 hst3 HR4;go_wp2_with fail
          go_loopw [23,30] (fun oo oat W=> ∃(a:Int) (vO:Value) (TA:List To),oat= .int .i64 a∧a≤(N:Int)-1∧ -8≤a∧oo=vO∧Hid ((OA.drop (a+1).toNat).reverse=TA)∧SK w1 W g gs rate sd c 0 u m bs (fun i=>KO i∨vO.ownBlock=some i)∧Stay KO wr W∧
           W.ownsRow w1.heap.size 76 5 vO TA.length (q3K TA)∧ ∀i,KO i→vO.ownBlock≠some i) (fun _ i _=>(intOf i+9).toNat)
          case atStart=>exact ⟨_,_,[],rfl,by omega,by omega,rfl,η48 (by rw[List.drop_of_length_le (by rw[HN.out];omega)];rfl),HK6.out.beside fun i hi=>(by rcases hi with hi|hi;exact hi;cases hi),Stay.refl _ _,⟨rfl,.inl ⟨rfl,rfl⟩⟩,fun i _ e=>by cases e⟩
          case round =>
           obtain ⟨a,vO,TA,rfl,ha1,ha8,rfl,HTA2,hsk,hsy,hrow,hdj⟩:=hrel;obtain ⟨pa2,pc2,rfl⟩:=q0G hrow;have hla:TA.length≤N:=by rw[←HTA2.out,List.length_reverse,List.length_drop,HN.out];omega
           by_cases hge:0≤a
           ·have hd5:decide ((0:Int)≤a)=true:=decide_eq_true hge
            have q10:IntKind.i64.wrap (a-(P:Int))=a-(P:Int):=by rw[IntKind.wrap_i64];omega
            have hst3:Stay KA w3 wr:=fun i hi=>(hsy i (HOW.out i (HWA.out i hi))).trans (HS3.out i hi)
            obtain ⟨nb,nof,ncp,en,n1,n2,nc1⟩:=HRj.out _ hst3
            cases en;have hji:(j:Int)<(np:Int):=by omega
            have hfw:=hsk.backward (by omega) nm (by have:=HSx.out.1;omega) a (P:Int) (by omega) (by omega);rw[HSx.out.page (by omega) (by omega)] at hfw;have hF:=HSx.out.bwd hge (p:=(P:Int)) (by omega);rw[←HT.out,HTA2.out] at hF;obtain ⟨F,hF0⟩: ∃F,y0o bs nm a (P:Int)=F:=⟨_,rfl⟩
            rw[hF0] at hfw hF;have hFl:TA.length+F.length≤N:=by rw[←List.length_append,hF,List.length_reverse,List.length_drop,HN.out];omega
            have HF:=η48 hF;have HFw:=η48 hfw;have HKw:=η48 hsk;have HSw:=η48 hsy;have HRw:=η48 hrow;have HDj:=η48 hdj;obtain ⟨no,hno⟩: ∃no,TA.length=no:=⟨_,rfl⟩
            have HNo:=η48 hno;rw[hno] at hFl hla HRw HFw HKw HDj⊢;clear hsk hsy hrow hdj hst3 hfw hF hF0 hno;go_wp2_with fail;refine HFw.out.mono ?_;rintro e w5 ⟨vF,rfl,h1,h2,h3,h4⟩;obtain ⟨fa,fc,rfl⟩:=q0G h3;have htf:=(q4A h3).1;have HK5:=η48 (h1.beside fun i hi=> .inl hi);have HS5:=η48 h2;have HR5:=η48 (q0b HRw.out fun i hi=>h2 i (.inr hi));have HRd:=η48 htf.rd;have HNil:=η48 htf.nil;have HBs:=η48 h1.base.size;obtain ⟨nf,hnf⟩: ∃nf,F.length=nf:=⟨_,rfl⟩
            have HNf:=η48 hnf;rw[hnf] at hFl⊢;clear h1 h2 h3 h4 htf HFw nc1 hnf
            go_wp2_with (at_builtin;refine q0K rfl _ _ 54 rfl w1.heap.size 76 _ 5 64 Tryz.underlying54 Tryz.infoTo (by decide) (by decide) _ no (q3K TA) rfl HR5.out _ nf fc (q3K F) rfl (by rw[q3g,HNf.out]) HNil.out HRd.out (z0i F) (by unfold maxLen;omega) (by omega) HBs.out ?_;intro v2 w8 hown hgrow hat;obtain ⟨a2,k2,rfl⟩:=q0G hown;have HO:=η48 hown;have HR:=η48 (SK.row0 (K:=KO) (vq:= .slice pa2 no pc2) HK5.out (Nat.le_refl _) HR5.out hown hgrow hat HDj.out);clear hown hgrow hat)
            go_roundw
            case rel=>
             refine ⟨a-P,_,TA++F,rfl,by omega,by omega,rfl,η48 HF.out.symm,HR.out.1,fun i hi=>((HR.out.2.1 i hi).trans (HS5.out i (.inl hi))).trans (HSw.out i hi),?_,HR.out.2.2⟩;rw[q5t,List.length_append,HNo.out,HNf.out];exact HO.out
            case measure=>simp[intOf];omega
           ·have hTA:TA=OA.reverse:=by rw[←HTA2.out,show (a+1).toNat=0 by omega];rfl
            have hd5:decide ((0:Int)≤a)=false:=decide_eq_false (by omega);have hTl:TA.length=N:=by rw[hTA,List.length_reverse,HN.out]
            rw[hTl] at hsk hrow hdj⊢;rw[hTA,←z9y] at hrow;obtain ⟨bq,rfl⟩:=z9S hrow (by omega);obtain ⟨H,hH⟩: ∃H,N/2=H:=⟨_,rfl⟩
            have qd:(N:Int).tdiv 2=(H:Int):=by rw[Int.tdiv_eq_ediv_of_nonneg (by omega)];omega
            have qw:IntKind.i64.wrap (H:Int)=(H:Int):=by rw[IntKind.wrap_i64];omega
            have HHe:=η48 hH;have HK7:=η48 hsk;have HS7:=η48 hsy;have HR7:=η48 hrow;have HD7:=η48 hdj;clear hsk hsy hrow hdj hTA hTl hge hla hlt hd4 ha1 ha8 hH HTA2;go_wp2_with fail
            go_loopw [33] (fun ok W=> ∃k:Nat,ok= .int .i64 (k:Int)∧k≤H∧SK w1 W g gs rate sd c 0 u m bs (fun i=>KO i∨(Value.slice (some ⟨bq,0,none⟩) N pc2).ownBlock=some i)∧Stay KO wr W∧
             W.ownsRow w1.heap.size 76 5 (.slice (some ⟨bq,0,none⟩) N pc2) N (q3K (swp OA k))) (fun i _=>H-(intOf i).toNat)
            case atStart=>exact ⟨0,rfl,Nat.zero_le _,HK7.out,Stay.refl _ _,HR7.out⟩
            case round=>
             obtain ⟨k,rfl,hk,hsk,hsy,hrow⟩:=hrel;by_cases hkl:k<H
             ·have hd6:decide ((k:Int)<(H:Int))=true:=decide_eq_true (by omega)
              have hHN:=HHe.out;obtain ⟨k2,hk2⟩: ∃k2:Nat,N-1-k=k2:=⟨_,rfl⟩
              have hk12:k<k2∧k+k2+1=N:=by omega
              have q12:IntKind.i64.wrap ((N:Int)-1-(k:Int))=(k2:Int):=by rw[IntKind.wrap_i64];omega
              have q13:IntKind.i64.wrap ((k:Int)+1)=(k:Int)+1:=by rw[IntKind.wrap_i64];omega
              have hki:(k:Int)<(N:Int):=by omega
              have hki2:(k2:Int)<(N:Int):=by omega
              have hlen:(swp OA k).length=N:=by rw[q3U,HN.out]
              have ht:=(q4A (L:=swp OA k) (n:=N) (by rw[hlen];exact hrow)).1;obtain ⟨_,_,e1,c0,c1,c2,c3,c4⟩:=ht.at (i:=k) (by omega)
              cases e1;obtain ⟨_,_,e1,d0,d1,d2,d3,d4⟩:=ht.at (i:=k2) (by omega)
              cases e1;have hlow:(swp OA k).getD k to0=OA.getD k2 to0:=by have:=y1m OA (k:=k) (by rw[HN.out];omega);rw[HN.out,hk2] at this;exact this
              have hhigh:(swp OA k).getD k2 to0=OA.getD k to0:=by have:=z9Q OA (k:=k) (by rw[HN.out];omega);rw[HN.out,hk2] at this;exact this
              have hstep:swp OA (k+1)=((swp OA k).set k (OA.getD k to0)).set k2 (OA.getD k2 to0):=by have:=z9e OA (k:=k) (by rw[HN.out];omega);rw[HN.out,hk2] at this;exact this
              rw[hlow] at c0 c1 c2 c3 c4;rw[hhigh] at d0 d1 d2 d3 d4;rw[Nat.zero_add] at c0 c1 c2 c3 c4 d0 d1 d2 d3 d4;generalize OA.getD k to0=X at*;generalize OA.getD k2 to0=Y at*;have hsk2:=hsk.grow ((Ext.refl wr).drew);have hrow2:=q0J hrow ((Ext.refl wr).drew);have HTh1:=η48 (z1l hrow2 (i:=k) (by omega));have HTh2:=η48 (World.there_setCells (z1l hrow2 (i:=k2) (by omega)) bq (k*5) (toc X));obtain ⟨s1,s2,s3⟩:=hsk2.turned (Nat.le_refl _) hrow2 HD7.out (i:=k) (j:=k2) (by omega) (by omega) X Y;rw[←hstep] at s3;rw[←z0O,←z0O] at s1 s2 s3;obtain ⟨xs,xv,⟨xt,xd,xw⟩⟩:=X;obtain ⟨ys,yv,⟨yt,yd,yw⟩⟩:=Y;simp only at c0 c1 c2 c3 c4 d0 d1 d2 d3 d4;simp only[toc] at s1 s2 s3 HTh2;have HS1:=η48 s1;have HS2:=η48 s2;have HS3:=η48 s3;have HSy:=η48 hsy;clear s1 s2 s3 hsy hsk hrow hsk2 hrow2 ht hlow hhigh hstep hlen hHN;go_wp2_with fail;refine q2m (fun W=>(W.cell? ⟨bq,k*5,none⟩=some (.string ⟨ys.toArray⟩)∧W.cell? ⟨bq,k*5+1,none⟩=some (.int .i64 yv)∧W.cell? ⟨bq,k*5+2,none⟩=some (.string ⟨yt.toArray⟩)∧W.cell? ⟨bq,k*5+3,none⟩=some (.string ⟨yd.toArray⟩)∧W.cell? ⟨bq,k*5+4,none⟩=some (.float .f64 yw))∧W.cell? ⟨bq,k2*5,none⟩=some (.string ⟨xs.toArray⟩)∧W.cell? ⟨bq,k2*5+1,none⟩=some (.int .i64 xv)∧W.cell? ⟨bq,k2*5+2,none⟩=some (.string ⟨xt.toArray⟩)∧W.cell? ⟨bq,k2*5+3,none⟩=some (.string ⟨xd.toArray⟩)∧W.cell? ⟨bq,k2*5+4,none⟩=some (.float .f64 xw)) 20 (by kernel_rfl) ⟨⟨c0,c1,c2,c3,c4⟩,d0,d1,d2,d3,d4⟩ (fun hHeld=>?_)
              refine q0C (i:=0) (v:=?_) rfl (by kernel_rfl) (fun _ _ _ h=>h) (Or.inl ⟨by rfl,?_⟩) hHeld (fun hHeld=>?_)
              rotate_left
              ·(intro w hSw;(try dsimp only at hSw);go_simp;try with_reducible rfl)
              simp only[Act.put,List.setIfInBounds_toArray,List.set_cons_zero,List.set_cons_succ];refine q0C (i:=1) (v:=?_) rfl (by kernel_rfl) (fun _ _ _ h=>h) (Or.inl ⟨by rfl,?_⟩) hHeld (fun hHeld=>?_)
              rotate_left
              ·(intro w hSw;(try dsimp only at hSw);go_simp;try with_reducible rfl)
              simp only[Act.put,List.setIfInBounds_toArray,List.set_cons_zero,List.set_cons_succ];refine q0C (i:=2) (v:=?_) rfl (by kernel_rfl) (fun _ _ _ h=>h) (Or.inl ⟨by rfl,?_⟩) hHeld (fun hHeld=>?_)
              rotate_left
              ·(intro w hSw;(try dsimp only at hSw);go_simp;try with_reducible rfl)
              simp only[Act.put,List.setIfInBounds_toArray,List.set_cons_zero,List.set_cons_succ];refine q0C (i:=3) (v:=?_) rfl (by kernel_rfl) (fun _ _ _ h=>h) (Or.inl ⟨by rfl,?_⟩) hHeld (fun hHeld=>?_)
              rotate_left
              ·(intro w hSw;(try dsimp only at hSw);go_simp;try with_reducible rfl)
              simp only[Act.put,List.setIfInBounds_toArray,List.set_cons_zero,List.set_cons_succ];refine q0C (i:=4) (v:=?_) rfl (by kernel_rfl) (fun _ _ _ h=>h) (Or.inl ⟨by rfl,?_⟩) hHeld (fun hHeld=>?_)
              rotate_left
              ·(intro w hSw;(try dsimp only at hSw);go_simp;try with_reducible rfl)
              simp only[Act.put,List.setIfInBounds_toArray,List.set_cons_zero,List.set_cons_succ];refine q0C (i:=5) (v:=?_) rfl (by kernel_rfl) (fun _ _ _ h=>h) (Or.inl ⟨by rfl,?_⟩) hHeld (fun hHeld=>?_)
              rotate_left
              ·(intro w hSw;(try dsimp only at hSw);go_simp;try with_reducible rfl)
              simp only[Act.put,List.setIfInBounds_toArray,List.set_cons_zero,List.set_cons_succ];refine q0C (i:=6) (v:=?_) rfl (by kernel_rfl) (fun _ _ _ h=>h) (Or.inl ⟨by rfl,?_⟩) hHeld (fun hHeld=>?_)
              rotate_left
              ·(intro w hSw;(try dsimp only at hSw);go_simp;try with_reducible rfl)
              simp only[Act.put,List.setIfInBounds_toArray,List.set_cons_zero,List.set_cons_succ];refine q0C (i:=7) (v:=?_) rfl (by kernel_rfl) (fun _ _ _ h=>h) (Or.inl ⟨by rfl,?_⟩) hHeld (fun hHeld=>?_)
              rotate_left
              ·(intro w hSw;(try dsimp only at hSw);go_simp;try with_reducible rfl)
              simp only[Act.put,List.setIfInBounds_toArray,List.set_cons_zero,List.set_cons_succ];refine q0C (i:=8) (v:=?_) rfl (by kernel_rfl) (fun _ _ _ h=>h) (Or.inl ⟨by rfl,?_⟩) hHeld (fun hHeld=>?_)
              rotate_left
              ·(intro w hSw;(try dsimp only at hSw);go_simp;try with_reducible rfl)
              simp only[Act.put,List.setIfInBounds_toArray,List.set_cons_zero,List.set_cons_succ];refine q0C (i:=9) (v:=?_) rfl (by kernel_rfl) (fun _ _ _ h=>h) (Or.inl ⟨by rfl,?_⟩) hHeld (fun hHeld=>?_)
              rotate_left
              ·(intro w hSw;(try dsimp only at hSw);go_simp;try with_reducible rfl)
              simp only[Act.put,List.setIfInBounds_toArray,List.set_cons_zero,List.set_cons_succ];refine q0C (i:=10) (v:=?_) rfl (by kernel_rfl) (fun _ _ _ h=>h) (Or.inl ⟨by rfl,?_⟩) hHeld (fun hHeld=>?_)
              rotate_left
              ·(intro w hSw;(try dsimp only at hSw);go_simp;try with_reducible rfl)
              simp only[Act.put,List.setIfInBounds_toArray,List.set_cons_zero,List.set_cons_succ];refine q0C (i:=11) (v:=?_) rfl (by kernel_rfl) (fun _ _ _ h=>h) (Or.inl ⟨by rfl,?_⟩) hHeld (fun hHeld=>?_)
              rotate_left
              ·(intro w hSw;(try dsimp only at hSw);go_simp;try with_reducible rfl)
              simp only[Act.put,List.setIfInBounds_toArray,List.set_cons_zero,List.set_cons_succ];refine q0C (i:=12) (v:=?_) rfl (by kernel_rfl) (fun _ _ _ h=>h) (Or.inl ⟨by rfl,?_⟩) hHeld (fun hHeld=>?_)
              rotate_left
              ·(intro w hSw;(try dsimp only at hSw);go_simp;try with_reducible rfl)
              simp only[Act.put,List.setIfInBounds_toArray,List.set_cons_zero,List.set_cons_succ];refine q0C (i:=13) (v:=?_) rfl (by kernel_rfl) (fun _ _ _ h=>h) (Or.inl ⟨by rfl,?_⟩) hHeld (fun hHeld=>?_)
              rotate_left
              ·(intro w hSw;(try dsimp only at hSw);go_simp;try with_reducible rfl)
              simp only[Act.put,List.setIfInBounds_toArray,List.set_cons_zero,List.set_cons_succ];refine q0C (i:=14) (v:=?_) rfl (by kernel_rfl) (fun _ _ _ h=>h) (Or.inl ⟨by rfl,?_⟩) hHeld (fun hHeld=>?_)
              rotate_left
              ·(intro w hSw;(try dsimp only at hSw);go_simp;try with_reducible rfl)
              simp only[Act.put,List.setIfInBounds_toArray,List.set_cons_zero,List.set_cons_succ];refine q1I (i:=15) (v:=?_) rfl (by kernel_rfl) (fun _ _ _ h=>h) (Or.inl ⟨by rfl,?_⟩) hHeld (fun hHeld=>?_)
              rotate_left
              ·(intro w hSw;(try dsimp only at hSw);go_simp;try with_reducible rfl)
              simp only[Act.put,List.setIfInBounds_toArray,List.set_cons_zero,List.set_cons_succ];refine q0C (i:=16) (v:=?_) rfl (by kernel_rfl) (fun _ _ _ h=>h) (Or.inl ⟨by rfl,?_⟩) hHeld (fun hHeld=>?_)
              rotate_left
              ·(intro w hSw;(try dsimp only at hSw);go_simp;try with_reducible rfl)
              simp only[Act.put,List.setIfInBounds_toArray,List.set_cons_zero,List.set_cons_succ];refine q0C (i:=17) (v:=?_) rfl (by kernel_rfl) (fun _ _ _ h=>h) (Or.inl ⟨by rfl,?_⟩) hHeld (fun hHeld=>?_)
              rotate_left
              ·(intro w hSw;(try dsimp only at hSw);go_simp;try with_reducible rfl)
              simp only[Act.put,List.setIfInBounds_toArray,List.set_cons_zero,List.set_cons_succ];refine q0C (i:=18) (v:=?_) rfl (by kernel_rfl) (fun _ _ _ h=>h) (Or.inl ⟨by rfl,?_⟩) hHeld (fun hHeld=>?_)
              rotate_left
              ·(intro w hSw;(try dsimp only at hSw);go_simp;try with_reducible rfl)
              simp only[Act.put,List.setIfInBounds_toArray,List.set_cons_zero,List.set_cons_succ];refine q1I (i:=19) (v:=?_) rfl (by kernel_rfl) (fun _ _ _ h=>h) (Or.inl ⟨by rfl,?_⟩) hHeld (fun hHeld=>?_)
              rotate_left
              ·(intro w hSw;(try dsimp only at hSw);go_simp;try with_reducible rfl)
              simp only[Act.put,List.setIfInBounds_toArray,List.set_cons_zero,List.set_cons_succ];refine q3S (by kernel_rfl) ?_
              try simp only[List.drop_succ_cons,List.drop_zero]
              clear hHeld;refine wpList_plain rfl fun K hK=>?_
              go_simp
              refine hK _ _ ?_;clear hK K
              try simp only[Act.put,List.setIfInBounds_toArray,List.set_cons_zero,List.set_cons_succ]
              refine wpList_store_mid rfl 76 (.tmp 239) (.tmp 234) rfl bq (k*5) #[.string ⟨xs.toArray⟩,.int .i64 xv,.string ⟨xt.toArray⟩,.string ⟨xd.toArray⟩,.float .f64 xw] rfl rfl HTh1.out (by kernel_rfl) (by simp[Value.oneCell']) ?_;refine wpList_plain rfl fun K hK=>?_
              go_simp
              refine hK _ _ ?_;clear hK K
              try simp only[Act.put,List.setIfInBounds_toArray,List.set_cons_zero,List.set_cons_succ]
              refine wpList_store_mid rfl 76 (.tmp 240) (.tmp 238) rfl bq (k2*5) #[.string ⟨ys.toArray⟩,.int .i64 yv,.string ⟨yt.toArray⟩,.string ⟨yd.toArray⟩,.float .f64 yw] rfl rfl HTh2.out (by kernel_rfl) (by simp[Value.oneCell']) ?_;go_wp2_with fail
              go_roundw
              case rel=>exact ⟨k+1,by go_num,by omega,HS1.out,fun i hi=>(HS2.out i hi).trans (HSy.out i hi),HS3.out⟩
              case measure=>simp[intOf];omega
             ·obtain rfl:k=H:=by omega
              have hd6:decide ((k:Int)<(k:Int))=false:=decide_eq_false (by omega);have hdone:swp OA k=OA:=z9V OA (by rw[HN.out,HHe.out];exact Nat.le_refl _);rw[hdone] at hrow;have ht2:=(q4A (L:=OA) (n:=N) (by rw[HN.out];exact hrow)).1;have hsO: ∀W,Stay KO wr W→Tos W oa N oc OA∧Tos W pa N pc OA:=fun W hW=>
               ⟨(q4A (L:=OA) (n:=N) (by rw[HN.out];exact q0b HRW.out fun i hi=>(hW i (HOW.out i (HWW.out i hi))).trans ((hsy i (HOW.out i (HWW.out i hi))).trans (HS7.out i (HOW.out i (HWW.out i hi)))))).1,(q4A (L:=OA) (n:=N) (by rw[HN.out];exact q0b HRO.out fun i hi=>(hW i (HOO.out i hi)).trans ((hsy i (HOO.out i hi)).trans (HS7.out i (HOO.out i hi))))).1⟩
              have HSO:=η48 hsO;have HT2:=η48 (fun W (kk:Stay (fun i=>KO i∨(Value.slice (some ⟨bq,0,none⟩) N pc2).ownBlock=some i) wr W)=>(q4A (L:=OA) (n:=N) (by rw[HN.out];exact q0b hrow fun i hi=>kk i (.inr hi))).1);have HKe:=η48 hsk;have HSe:=η48 hsy;clear hsk hsy hrow ht2 hsO hdone;go_wp2_with fail;refine (z8n _ (HSO.out _ (Stay.refl _ _)).1 (HSO.out _ (Stay.refl _ _)).2).mono ?_;rintro e w5 ⟨rfl,hx5⟩;have hk5:=HKe.out.kExt hx5;have HC2:=η48 (z8n w5 (HSO.out _ fun i hi=>hk5 i (.inl hi)).1 (HT2.out _ hk5));have HX5:=η48 hx5;clear hx5 hk5;go_wp2_with fail;refine HC2.out.mono ?_;rintro e w6 ⟨rfl,hx6⟩;have hx56:=HX5.out.trans hx6;have HK8:=η48 ((HKe.out.grow hx56).beside fun i hi=> .inl (HOW.out i (HWA.out i hi)));have HS8:Hid (Stay KA w3 w6):=η48 fun i hi=>((HKe.out.kExt hx56 i (.inl (HOW.out i (HWA.out i hi)))).trans (HSe.out i (HOW.out i (HWA.out i hi)))).trans ((HS7.out i (HOW.out i (HWA.out i hi))).trans (HS3.out i hi))
              clear hx6 hx56 HC2;go_wp2_with fail
              go_roundw
              case rel=>exact ⟨j+1,by go_num,by omega,HK8.out,HS8.out⟩
              case measure=>simp[intOf];omega
     ·obtain rfl:j=np:=by omega
      have hd2:decide ((j:Int)<(j:Int))=false:=decide_eq_false (by omega);have HXe:=η48 (HX1.out.trans HEj.out);clear hsk hsy;go_wp2_with fail;refine (z4p _).mono ?_;rintro e w9 ⟨rfl,hx⟩;have HX9:=η48 (HXe.out.trans hx);clear hx;go_wp2_with fail;go_ret;exact ⟨rfl,HX9.out⟩
end
end Go.Proofs.YtjjfiejoeelndaaGreatDoor
