/- The shelf's contract of slices.Reverse at []api.Told at this seat, in plain words: written by a tool of the kit (lay-plain) from a short module of mine, turned into a template. Walks: pages down (store.Backward): events turned about (slices.Reverse). A store at ease: the batches it has, how much was done with it. Walks: a store on a new disk (law26's opened); the chapter's store (stored). Walks: what a store that is none answers. Walks: law StoreNone. -/
import Derived.Shelf.SlicesQ.Reverse
import Derived.Ground.SlgnProg
import Derived.Test.YtjjfiejoeelndaaGreatDoorProg
import Derived.Test.YtjjfiejoeelndaaGreatDoorG47Bs
import Derived.Lib.OwnBridge
import Derived.Test.YtjjfiejoeelndaaGreatDoorG46Bs
import Derived.Test.YtjjfiejoeelndaaGreatDoorG44Bs
import Derived.Test.YtjjfiejoeelndaaGreatDoorG28Bs
import Derived.Test.YtjjfiejoeelndaaGreatDoorG43Bs
set_option linter.unusedVariables false
set_option linter.unusedSimpArgs false
namespace Go.Proofs
open Go.Shelf
def Tryz.reverseTold_ren :Go.Shelf.Ren:=⟨fun|35=>61|n=>n,fun|22=>54|23=>76|3=>3|4=>4|0=>0|n=>n,fun|n=>n⟩
theorem Tryz.reverseTold :Go.Proofs.SlLaysE0.n35 Tryz.prog Tryz.reverseTold_ren:={
  mixed:=by kernel_rfl
  f35:=⟨Tryz.f61.name,by decide,Tryz.func61.trans (congrArg some (by kernel_rfl))⟩
  t0:=Tryz.underlying0
  a0:=Tryz.isAgg0
  z0:=Tryz.sizeOf0
  v0:=Tryz.zeroValue0
  t3:=Tryz.underlying3
  a3:=Tryz.isAgg3
  z3:=Tryz.sizeOf3
  v3:=Tryz.zeroValue3
  t4:=Tryz.underlying4
  a4:=Tryz.isAgg4
  z4:=Tryz.sizeOf4
  v4:=Tryz.zeroValue4
  t22:=Tryz.underlying54
  a22:=Tryz.isAgg54
  z22:=Tryz.sizeOf54
  v22:=Tryz.zeroValue54}
end Go.Proofs
namespace Go.Proofs.YtjjfiejoeelndaaGreatDoor
open Go.RowKit Go.Sort Go.Lib
set_option maxRecDepth 100000
set_option linter.unusedVariables false
set_option maxHeartbeats 6400000
theorem z0z {w:World} {base k:Nat} {e:TypeId} {g n cap q:Nat} {cs:List Value} {F:Array Value} (h:w.ownsRow base e k (.slice (some ⟨g,0,none⟩) n cap) n cs) (hF:F.size=n*k):
    (putRow id (Sort.ahead w q) g 0 F).ownsRow base e k (.slice (some ⟨g,0,none⟩) n cap) n F.toList:=by
  rcases h.2 with ⟨e0,_⟩|⟨g',cap',cur,e0,hb,hg,hn,hm,hs,ht⟩
  · cases e0
  · injection e0 with e1 _ e3
    injection e1 with e1
    injection e1 with e1
    subst e1;subst e3
    have hnk:n*k≤cap*k:=Nat.mul_le_mul_right k hn
    refine ⟨by simpa using hF,.inr ⟨g,cap,putCells id 0 F cur,rfl,hb,?_,hn,hm,by simpa [putCells] using hs,?_⟩⟩
    · simp[putRow,mapBlock,Sort.ahead,Array.getElem?_modify,hg,onCells]
    · apply List.ext_getElem?
      intro j
      rw[List.getElem?_take,Array.getElem?_toList,Array.getElem?_toList]
      by_cases hj:j<n*k
      · have hjc:j<cur.size:=by omega
        simp only[if_pos hj,putCells,Array.getElem?_mapIdx,Array.getElem?_eq_getElem hjc,Option.map_some]
        rw[if_pos (by omega),Array.getElem?_eq_getElem (by omega)]
        simp[getElem!_pos,show j<F.size by omega]
      · rw[if_neg hj,Array.getElem?_eq_none (by omega)]
theorem q8y {w:World} {base k:Nat} {e:TypeId} {g n cap:Nat} {cs:List Value} (h:w.ownsRow base e k (.slice (some ⟨g,0,none⟩) n cap) n cs):Holds id w g 0 cs.toArray:=by
  have hl:=h.1
  rcases h.2 with ⟨e0,_⟩|⟨g',cap',cur,e0,hb,hg,hn,hm,hs,ht⟩
  · cases e0
  · injection e0 with e1 _ e3
    injection e1 with e1
    injection e1 with e1
    subst e1;subst e3
    have hnk:n*k≤cap*k:=Nat.mul_le_mul_right k hn
    intro j hj
    have hj':j<n*k:=by simpa [hl] using hj
    refine ⟨?_,by simp[World.frozen?,hg]⟩
    have e1:(cur.toList.take (n*k))[j]? =cs[j]? :=by rw[ht]
    rw[List.getElem?_take,if_pos hj',Array.getElem?_toList] at e1
    simp only[World.cell?,hg,Nat.zero_add]
    simp only[Option.isSome_none,Bool.false_eq_true,if_false]
    rw[e1,List.getElem?_eq_getElem (by omega)]
    simp[getElem!_pos,show j<cs.length by omega]
instance : Inhabited To:=⟨to0⟩
theorem q9U (T:List To):flatK toc 5 T.toArray=(q4l T).toArray:=by
  have hsz:(flatK toc 5 T.toArray).size=T.length*5:=by simp[flatK]
  refine ext_get! (by rw[hsz];simp[q7C]) fun t ht=>?_
  rw[hsz] at ht
  rw[get_flatK _ _ _ _ (by simpa using ht)]
  have h1:=q4f T (t/5) (t % 5) (by omega) (Nat.mod_lt _ (by decide))
  rw[show t/5*5+t % 5=t by omega] at h1
  have h2:t/5<T.length:=by omega
  rw[show (T.toArray)[t/5]! =T.getD (t/5) to0 by simp[getElem!_pos,h2,List.getD_eq_getElem?_getD]]
  rw[show (q4l T).toArray[t]! =((q4l T)[t]?).getD default by simp only[getElem!_def,List.getElem?_toArray];cases (q4l T)[t]? <;>rfl,h1]
  simp only[getElem!_def]
  cases (toc (T.getD (t/5) to0))[t % 5]? <;>rfl
theorem z4O {w:World} {base:Nat} {v:Value} {T:List To} (h:w.ownsRow base 76 5 v T.length (q4l T)) (hn:T.length≤9223372036854775807):
    Calls Tryz.prog 61 #[v] w fun e w'=>e= .returned (.tuple #[])∧w'.ownsRow base 76 5 v T.length (q4l T.reverse)∧(∀w0,Below w0.heap.size w0 w→w0.heap.size≤base→Below w0.heap.size w0 w')∧
      (∀i,v.ownBlock≠some i→w'.heap[i]? =w.heap[i]?)∧w.heap.size≤w'.heap.size:=by
  rcases h.2 with ⟨rfl,h0⟩|⟨g,cap,cur,rfl,hb,hg,h1,h2,h3,h4⟩
  · have hT:T=[]:=List.length_eq_zero_iff.1 h0
    subst hT
    refine (AnyQ.slices_Reverse_empty Tryz.reverseTold none 0 w).mono ?_
    rintro e w' ⟨rfl,rfl⟩
    exact ⟨rfl,h,fun _ hh _=>hh,fun _ _=>rfl,Nat.le_refl _⟩
  · have hr:=AnyQ.slices_Reverse Tryz.reverseTold 5 Tryz.isAgg76 Tryz.sizeOf76 toc (fun _=>rfl) (fun x u hu=>z6w [x] u (by simpa [q4l] using hu)) g 0 cap T.toArray w (by unfold HoldsK;rw[q9U];exact q8y h) (by simpa using hn)
    have e0:T.toArray.size=T.length:=by simp
    rw[e0] at hr
    refine hr.mono ?_
    rintro e w' ⟨rfl,q,rfl⟩
    have e1:putRowK toc 5 (Sort.ahead w q) g 0 T.toArray.reverse=putRow id (Sort.ahead w q) g 0 (q4l T.reverse).toArray:=by
      unfold putRowK
      rw[show T.toArray.reverse=T.reverse.toArray by simp,q9U]
    rw[e1]
    refine ⟨rfl,?_,fun w0 hh hle=>below_putRow hh (by omega),fun i hi=>?_,?_⟩
    · have:=z0z (q:=q) (F:=(q4l T.reverse).toArray) h (by simp[q7C])
      simpa using this
    · have hne:g≠i:=fun e=>hi (by rw[e];rfl)
      simp[putRow,mapBlock,Sort.ahead,Array.getElem?_modify,hne]
    · simp[Sort.ahead]
def z9q (bs:List Bt) (str:List UInt8) (fr ct:Int):List To:=if q3O str fr ct=0 then (z2W (q7u bs str) fr ct).reverse else []
section
variable {wb w W W1 W2:World} {g gl gs gx rate:Nat} {m:Man} {ws:List En} {c s sd:Int} {u cnt:Nat} {B:List En} {C:Cks} {P:Pbs} {sure:Int} {K K':Nat→Prop}
theorem z1U (h:StoP wb w g gs gl gx rate m ws sd c s u cnt B C sure P K) (str:List UInt8) (hs:str.length≤4611686018427387903) (fr ct:Int) (hf1:fr≤9223372036854775807) (hc1:ct≤9223372036854775807) (hl:B.length≤10000) (hev:(q1B (q1f P) str).length≤10000):
    Calls Tryz.prog 28 #[.pointer (some ⟨gs,0,none⟩),.string ⟨str.toArray⟩,.int .i64 fr,.int .i64 ct] w (ToldR wb w g gs gl gx rate m ws sd c s u cnt B C sure P K (z9q (q1f P) str fr ct) (q3O str fr ct)):=by
  have HPg:=Lib.hid (z4K h.b str hs fr ct)
  have HH:=Lib.hid h
  obtain ⟨R,hR⟩: ∃R,z9q (q1f P) str fr ct=R:=⟨_,rfl⟩
  rw[hR]
  unfold z9q at hR
  by_cases hz:q3O str fr ct=0
  · have hfc:0≤fr∧1≤ct:=by
      unfold q3O at hz
      split at hz
      · cases hz
      · omega
    rw[if_pos hz] at hR
    rw[hz] at HPg⊢
    have q1:IntKind.i64.wrap (fr-ct)=fr-ct:=by rw[IntKind.wrap_i64];omega
    have q2:IntKind.i64.wrap (fr-ct+1)=fr-ct+1:=by rw[IntKind.wrap_i64];omega
    have hpd:=z5T (q1f P) str (f:=fr) (c:=ct) hfc.1 hfc.2 (by omega)
    obtain ⟨R0,hR0⟩: ∃R0,z2W (q7u (q1f P) str) fr ct=R0:=⟨_,rfl⟩
    rw[hR0] at hpd hR
    have hR0l:R0.length≤10000:=by
      rw[←hpd]
      refine Nat.le_trans (List.length_filter_le _ _) ?_
      rw[q6R];exact hev
    have HB:=Lib.hid (fun W (k:Ext w W)=>q7B (h.grow k) str hs (fr-ct+1) fr hl hpd)
    have HRe:Hid (R0.reverse=R):=Lib.hid hR
    clear hz hR h hpd hR0
    go_enter Tryz.func28,Tryz.ntmps28
    go_wp2_with fail
    refine HPg.out.mono ?_
    rintro e w1 ⟨rfl,hx⟩
    have HX:=Lib.hid hx
    clear hx
    go_wp2_with fail
    refine (HB.out _ HX.out).mono ?_
    rintro e w2 ⟨v,rfl,hh,hst,hrow,hdj⟩
    obtain ⟨ra,rc,rfl⟩:=q0I hrow
    have HRv:=Lib.hid (z4O hrow (by omega))
    have HH2:=Lib.hid hh
    have HS2:=Lib.hid ((HH.out.kExt HX.out).trans hst)
    have HDj:=Lib.hid hdj
    clear hh hst hrow hdj HB
    go_wp2_with fail
    refine HRv.out.mono ?_
    rintro e w3 ⟨rfl,hrow,hbl,hsame,hsz⟩
    rw[HRe.out] at hrow
    have hlen:R.length=R0.length:=by rw[←HRe.out,List.length_reverse]
    have HF:Hid (ToldR wb w g gs gl gx rate m ws sd c s u cnt B C sure P K R 0 (.returned (.tuple #[.slice ra R0.length rc,.int .i64 0])) w3):=Lib.hid
      ⟨_,rfl,HH2.out.sideM hsz (hbl wb HH2.out.base (Nat.le_refl _)) (fun i hi hn=>hsame i fun e=>hn (.inr e)) fun i hi=> .inl hi,HS2.out.trans fun i hi=>hsame i (HDj.out i hi),by rw[hlen];exact hrow,HDj.out⟩
    clear hrow hbl hsame hsz HRv
    go_wp2_with fail
    go_ret2
    exact HF.out
  · rw [if_neg hz] at hR
    subst hR
    have hz2:q3O str fr ct=2:=by
      unfold q3O at hz⊢
      split at hz
      · rename_i h1;rw[if_pos h1]
      · exact absurd rfl hz
    rw[hz2] at HPg⊢
    clear hz hz2 h
    go_enter Tryz.func28,Tryz.ntmps28
    go_wp2_with fail
    refine HPg.out.mono ?_
    rintro e w1 ⟨rfl,hx⟩
    have HX:=Lib.hid hx
    clear hx
    go_wp2_with fail
    go_ret2
    exact ToldR.nil (HH.out.grow HX.out) (HH.out.kExt HX.out) 2
end
end Go.Proofs.YtjjfiejoeelndaaGreatDoor
namespace Go.Proofs.YtjjfiejoeelndaaGreatDoor
open Go.RowKit
set_option maxRecDepth 100000
set_option linter.unusedVariables false
set_option maxHeartbeats 6400000
theorem q9p : ∀(C:Cks) (b:Nat),(∀ps∈C,ps≠[])→C.length≤(q0t b C).length
  |[],_,_=>Nat.le_refl _
  | ps::t,b,h=>by
    have h1:=q9p t (b+4096) fun q hq=>h q (.tail _ hq)
    have h2:0<ps.length:=List.length_pos_iff.2 (h ps (.head _))
    rw[q0t,List.length_append,q3v,List.length_cons]
    omega
theorem z4W {bs:List Bt} (h:okBs bs):(tos bs).length≤8*bs.length:=by
  induction bs using q8z with
  |h0=>exact Nat.le_refl _
  | h1 l b ih=>
    obtain ⟨h1,h2,_⟩:=okBs_snoc.1 h
    have h3:=(q0y h2.1).2.2.2.1
    have h4:=ih h1
    rw[q4T,q8b,List.length_append,q3Z,List.length_append,List.length_singleton]
    omega
def SK (wb W:World) (g gs rate:Nat) (sd c s:Int) (u n:Nat) (bs:List Bt) (K:Nat→Prop):Prop:=
  ∃gl gx m ws B C sure P,StoP wb W g gs gl gx rate m ws sd c s u (40+3*n) B C sure P K∧q1f P=bs∧m.nx≤n∧bs.length≤n∧0≤sd∧sd<18446744073709551616
def SQ (wb W:World) (g:Nat) (sd c s:Int) (u n:Nat) (bs:List Bt) (K:Nat→Prop):Prop:=
  ∃m B C P,DKQ wb W g m c s u (40+3*n) B C K∧y1J sd m B C P∧B.Nodup∧q1f P=bs∧m.nx≤n∧bs.length≤n∧0≤sd∧sd<18446744073709551616
section
variable {wb w W W':World} {g gs rate u n:Nat} {sd c s:Int} {bs:List Bt} {K K':Nat→Prop}
theorem StoP.bounds {gl gx:Nat} {m:Man} {ws:List En} {cnt:Nat} {B:List En} {C:Cks} {sure:Int} {P:Pbs} (h:StoP wb W g gs gl gx rate m ws sd c s u cnt B C sure P K) (hb:q1f P=bs) (hn:bs.length≤n):
    (tos bs).length≤8*n∧B.length≤8*n∧C.length≤n∧okBs bs:=by
  have hok:okBs bs:=hb▸h.stE.ok
  have h1:=z4W hok
  have h2:=h.len
  rw[hb] at h2
  have h3:=q9p C 0 h.i.cOk.full
  rw[h.recE,q6o] at h3
  have h4:bs.length=P.length:=by rw[←hb];exact List.length_map _
  exact ⟨by omega,by omega,by omega,hok⟩
theorem SK.base (h:SK wb W g gs rate sd c s u n bs K):Ext wb W:=by
  obtain ⟨gl,gx,m,ws,B,C,sure,P,h1,_⟩:=h
  exact h1.base
theorem SK.more (h:SK wb W g gs rate sd c s u n bs K) (k:Ext W W') (hK: ∀i,K' i→K i∨(W.heap.size≤i∧i<W'.heap.size)):SK wb W' g gs rate sd c s u n bs K':=by
  obtain ⟨gl,gx,m,ws,B,C,sure,P,h1,h2⟩:=h
  exact ⟨gl,gx,m,ws,B,C,sure,P,h1.more k hK,h2⟩
def EvR (wb w:World) (g gs rate:Nat) (sd c s:Int) (u n:Nat) (bs:List Bt) (K:Nat→Prop) (R:List To) (z:Int) (e:Ending) (w':World):Prop:=
  ∃v,e= .returned (.tuple #[v,.int .i64 z])∧SK wb w' g gs rate sd c s u n bs (fun i=>K i∨v.ownBlock=some i)∧Stay K w w'∧w'.ownsRow wb.heap.size 76 5 v R.length (q4l R)∧ ∀i,K i→v.ownBlock≠some i
theorem SK.last (h:SK wb w g gs rate sd c s u n bs K) (hn:n≤1000) (str:List UInt8) (hs:str.length≤4611686018427387903) {x y:Int} (hr:z2p bs str=(x,y)):
    Calls Tryz.prog 13 #[.pointer (some ⟨gs,0,none⟩),.string ⟨str.toArray⟩] w fun e w'=>e= .returned (.tuple #[.int .i64 x,.int .i64 y])∧SK wb w' g gs rate sd c s u n bs K∧Stay K w w':=by
  obtain ⟨gl,gx,m,ws,B,C,sure,P,h1,rfl,h3,h4,h5⟩:=h
  obtain ⟨b1,b2,b3,b4⟩:=h1.bounds rfl h4
  have b5:=q5L (q1f P) str
  refine (z5F h1 str hs (by omega) (by omega) hr).mono ?_
  rintro e w' ⟨rfl,k1,k2⟩
  exact ⟨rfl,⟨gl,gx,m,ws,B,C,sure,P,k1,rfl,h3,h4,h5⟩,k2⟩
theorem SK.forward (h:SK wb w g gs rate sd c s u n bs K) (hn:n≤1000) (str:List UInt8) (hs:str.length≤4611686018427387903) (fr ct:Int) (hf0: -9223372036854775808≤fr) (hf1:fr≤9223372036854775807):
    Calls Tryz.prog 27 #[.pointer (some ⟨gs,0,none⟩),.string ⟨str.toArray⟩,.int .i64 fr,.int .i64 ct] w (EvR wb w g gs rate sd c s u n bs K (y0R bs str fr ct) (q3O str fr ct)):=by
  obtain ⟨gl,gx,m,ws,B,C,sure,P,h1,rfl,h3,h4,h5⟩:=h
  obtain ⟨b1,b2,b3,b4⟩:=h1.bounds rfl h4
  have b5:=q5L (q1f P) str
  refine (z3m h1 str hs fr ct hf0 hf1 (by omega) (by omega)).mono ?_
  rintro e w' ⟨v,rfl,k1,k2⟩
  exact ⟨v,rfl,⟨gl,gx,m,ws,B,C,sure,P,k1,rfl,h3,h4,h5⟩,k2⟩
theorem SK.backward (h:SK wb w g gs rate sd c s u n bs K) (hn:n≤1000) (str:List UInt8) (hs:str.length≤4611686018427387903) (fr ct:Int) (hf1:fr≤9223372036854775807) (hc1:ct≤9223372036854775807):
    Calls Tryz.prog 28 #[.pointer (some ⟨gs,0,none⟩),.string ⟨str.toArray⟩,.int .i64 fr,.int .i64 ct] w (EvR wb w g gs rate sd c s u n bs K (z9q bs str fr ct) (q3O str fr ct)):=by
  obtain ⟨gl,gx,m,ws,B,C,sure,P,h1,rfl,h3,h4,h5⟩:=h
  obtain ⟨b1,b2,b3,b4⟩:=h1.bounds rfl h4
  have b5:=q5L (q1f P) str
  refine (z1U h1 str hs fr ct hf1 hc1 (by omega) (by omega)).mono ?_
  rintro e w' ⟨v,rfl,k1,k2⟩
  exact ⟨v,rfl,⟨gl,gx,m,ws,B,C,sure,P,k1,rfl,h3,h4,h5⟩,k2⟩
theorem SK.append (h:SK wb w g gs rate sd c s u n bs K) (hn:n≤86) (str:List UInt8) (hs:str.length≤4611686018427387903) (ex:Int) {ao:Option Addr} {k cap:Nat} {L:List Ev} (hx: ∀W,Ext wb W→Stay K w W→Evs W ao k cap L) (hL:q3A L)
    (hwe: ∀e∈L,e.we<18446744073709551616) {z:Int} (hz:z7z bs str ex L=z):
    Calls Tryz.prog 17 #[.pointer (some ⟨gs,0,none⟩),.string ⟨str.toArray⟩,.int .i64 ex,.slice ao k cap] w fun e w'=>
      ∃ x y bs',e= .returned (.tuple #[.int .i64 x,.int .i64 y])∧SK wb w' g gs rate sd c s (u+2024) (n+1) bs' K∧Stay K w w'∧
        ((z≠0∧x=0∧y=z∧bs'=bs)∨(z=0∧x=0∧y=60∧bs'=bs∧c-(u:Int)-2024<6000)∨(z=0∧x=((q1B bs str).length:Int)∧y=0∧bs'=bs++[⟨str,(q1B bs str).length,L⟩])):=by
  obtain ⟨gl,gx,m,ws,B,C,sure,P,h1,rfl,h3,h4,h5⟩:=h
  obtain ⟨b1,b2,b3,b4⟩:=h1.bounds rfl h4
  have b5:=q5L (q1f P) str
  refine (z5A h1 str hs ex hx hL hwe (by omega) (by omega) (by omega)).mono ?_
  rw[hz]
  rintro e w' ⟨⟨k0,rfl,k1⟩|⟨rfl,rfl,k1,k3⟩|⟨rfl,k3,pos,ws',B',C',sure',rfl,k1⟩,k2⟩
  · exact ⟨_,_,_,rfl,⟨gl,gx,m,ws,B,C,sure,P,k1.mono (by omega) (by omega),rfl,by omega,by omega,h5⟩,k2,.inl ⟨k0,rfl,rfl,rfl⟩⟩
  · exact ⟨_,_,_,rfl,⟨gl,gx,m,ws,B,C,sure,P,k1.mono (by omega) (by omega),rfl,by omega,by omega,h5⟩,k2,.inr (.inl ⟨rfl,rfl,rfl,rfl,by omega⟩)⟩
  · exact ⟨_,_,_,rfl,⟨gl,gx,m,ws',B',C',sure',_,k1.mono (by omega) (by omega),rfl,by omega,by rw[q4n,List.length_append,List.length_singleton];omega,h5⟩,k2,.inr (.inr ⟨rfl,rfl,rfl,q4n _ _ _⟩)⟩
theorem SQ.open (h:SQ wb w g sd c s u n bs K) (hn:n≤200) (rate:Nat):Calls Tryz.prog 26 #[.pointer (some ⟨g,0,none⟩),.int .u64 sd,.float .f64 rate] w fun e w'=>
    ∃gs,e= .returned (.tuple #[.pointer (some ⟨gs,0,none⟩),.int .i64 0])∧SK wb w' g gs rate sd c s u n bs K∧Stay K w w':=by
  obtain ⟨m,B,C,P,h1,h2,h3,rfl,h4,h5,h6,h7⟩:=h
  have h8:=z4W h2.ok
  refine (z8q h1 h2 h6 h7 (by omega) (by omega) h3 rate).mono ?_
  rintro e w' ⟨gs,gl,gx,m',ws,B',sure,rfl,k1,k2,k3⟩
  exact ⟨gs,rfl,⟨gl,gx,m',ws,B',C,sure,P,k1,rfl,by omega,h5,h6,h7⟩,k3⟩
theorem DkK.sq (h:DkK noO wb w g c s [] K) (sd:Int) (hs0:0≤sd) (hs1:sd<18446744073709551616):SQ wb w g sd c s 0 0 [] K:=by
  obtain ⟨F,σ,h1,h2⟩:=h
  have hpl:Pl σ c s []:=by have:=h2.pl;simpa [q2B,noO,q2F,q5S,q2w,q3l] using this
  have hv:q0a 0 0 []=true:=by decide
  refine ⟨⟨0,0,sd,[]⟩,[],[],[],⟨⟨⟨0,0,sd,[]⟩,0,[],fun _=>none,0⟩,σ,fun _=>none,F,rfl,rfl,h1,⟨⟨⟨[],hpl,List.Pairwise.nil,fun _=>rfl,Nat.zero_le _,Nat.zero_le _⟩,⟨hv,hs0,hs1⟩,(fun n hn=>by cases hn),(fun n e he=>by cases he),(fun nm hn=>absurd rfl hn),okM.nil,okM.nil,fun x=>?_⟩,.inr ⟨rfl,rfl,rfl,rfl⟩,fun k _=>by simp⟩,okC.nil⟩,
    ⟨rfl,rfl,okBs.nil,(fun x hx=>by cases hx),(fun x hx=>by cases hx),by show (0:Int)≤q4d [];rw[z2a];decide⟩,List.nodup_nil,rfl,Int.le_refl _,Nat.le_refl _,hs0,hs1⟩
  constructor
  · intro hx;cases hx
  · rintro (hx|⟨n,e,he,_⟩)
    · cases hx
    · cases he
end
end Go.Proofs.YtjjfiejoeelndaaGreatDoor
namespace Go.Proofs.YtjjfiejoeelndaaGreatDoor
open Go.RowKit
set_option maxRecDepth 100000
set_option linter.unusedVariables false
set_option maxHeartbeats 6400000
theorem DkK.rebase {E:Oth} {wa wb w:World} {g:Nat} {c s:Int} {C:Cks} {K:Nat→Prop} (h:DkK E wb w g c s C K) (k:Ext wa wb):DkK E wa w g c s C K:=by
  obtain ⟨F,σ,h1,h2⟩:=h
  have hs:=k.size
  exact ⟨F,σ,⟨h1.d,fun i hi=>by have:=h1.bF i hi;omega,k.trans h1.ext,h1.k⟩,h2⟩
theorem DkK.base {E:Oth} {wb w:World} {g:Nat} {c s:Int} {C:Cks} {K:Nat→Prop} (h:DkK E wb w g c s C K):Ext wb w:=by
  obtain ⟨F,σ,h1,h2⟩:=h
  exact h1.ext
theorem z6W (sd:Int) (rate:Nat) (room:Int) (w:World) (hs0:0≤sd) (hs1:sd<18446744073709551616) (hr0:0≤room) (hr1:room≤65535):
    Calls Tryz.prog 23 #[.agg #[.int .u64 sd,.float .f64 rate,.int .u16 room]] w fun e w'=> ∃g gs,e= .returned (.tuple #[.pointer (some ⟨g,0,none⟩),.pointer (some ⟨gs,0,none⟩),.bool true])∧SK w w' g gs rate sd (6000+room*4) 0 0 0 [] noI:=by
  have hx1:=q0B w (.cells #[.int .u64 sd,.float .f64 rate,.int .u16 room] 27)
  have hbk:=Blk.new w 27 #[.int .u64 sd,.float .f64 rate,.int .u16 room]
  have k2:=hbk.cell 2
  have HBk:=Lib.hid hbk
  have HX1:=Lib.hid hx1
  have HN:=Lib.hid (fun W=>DkK.new24 W (6000+room*4) (by omega) (by omega))
  have q0:IntKind.i64.wrap room=room:=by rw[IntKind.wrap_i64];omega
  have q1:IntKind.i64.wrap (room*4)=room*4:=by rw[IntKind.wrap_i64];omega
  have q2:IntKind.i64.wrap (6000+room*4)=6000+room*4:=by rw[IntKind.wrap_i64];omega
  clear hx1 hbk
  go_enter Tryz.func23,Tryz.ntmps23
  go_wp2_with fail
  refine (HN.out _).mono ?_
  rintro e w1 ⟨g,rfl,hd⟩
  have hx:=DkK.base hd
  have hb1:=HBk.out.ext hx
  have k0:=hb1.cell 0;have k1:=hb1.cell 1
  have HS:=Lib.hid ((DkK.sq (hd.rebase HX1.out) sd hs0 hs1).open (by omega) rate)
  have HX2:=Lib.hid (HX1.out.trans hx)
  clear hd hx hb1 k2
  go_wp2_with fail
  refine HS.out.mono ?_
  rintro e w2 ⟨gs,rfl,hk,hst⟩
  have HK:=Lib.hid hk
  clear hk hst HS k0 k1
  go_wp2_with fail
  go_ret3
  exact ⟨g,gs,rfl,HK.out⟩
theorem Blk.rd {w:World} {b:Nat} {t:TypeId} {cs:Array Value} (h:Blk w b t cs):Rd w (some ⟨b,0,none⟩) cs.toList:=fun j u hj=>⟨b,0,rfl,by rw[Nat.zero_add,h.cell j];simpa using hj⟩
theorem Blk.evs {w:World} {b:Nat} {t:TypeId} {L:List Ev} (h:Blk w b t (q6N L).toArray) {k:Nat} (hk:k≤L.length) (hl:L.length≤1000000):Evs w (some ⟨b,0,none⟩) k L.length (L.take k):=by
  refine ⟨by rw[List.length_take];omega,hk,by omega,(fun e=>by cases e),?_⟩
  have h1:=h.rd.take (k*3)
  have e:(q6N L).take (k*3)=q6N (L.take k):=by
    conv=>lhs;rw[←List.take_append_drop k L,q6Q]
    exact List.take_left' (by rw[q6y,List.length_take];omega)
  rw[←e]
  simpa using h1
theorem z3x {w:World} {B:Nat} {e:TypeId} {ao:Option Addr} {n cp:Nat} {L:List To} (h:w.ownsRow B e 5 (.slice ao n cp) L.length (q4l L)):Tos w ao n cp L∧n=L.length:=by
  obtain ⟨a,c,e1,h2⟩:=Tos.of_own (Own.of_row h)
  cases e1
  exact ⟨h2,rfl⟩
abbrev evA :Ev:=⟨[97],[],0⟩
abbrev z8T :Ev:=⟨[98],[],0⟩
abbrev st1 :Bt:=⟨[115],0,[evA,z8T]⟩
abbrev st2 :Bt:=⟨[115],2,[evA]⟩
theorem y1P :z7z [] [115] (-1) [evA,z8T]=0:=by decide
theorem y1V :z7z [st1] [115] (-1) [evA]=80:=by decide
theorem y1O :z7z [st1] [115] 1 [evA]=0:=by decide
theorem y1R :z2p [st1,st2] [115]=(2,0):=by decide
theorem y1N :y0R [st1,st2] [115] 1 9=[⟨[115],1,z8T⟩,⟨[115],2,evA⟩]:=rfl
theorem y1S :z9q [st1,st2] [115] 1 9=[⟨[115],1,z8T⟩,⟨[115],0,evA⟩]:=rfl
theorem y1I :q3O [115] 1 9=0:=by decide
theorem q8q {L:List Ev} (h: ∀e∈L,e.ty.length≤300∧e.da.length≤300):q3A L:=fun e he=>by have:=h e he;omega
theorem z1i (w:World):Calls Tryz.prog 22 #[] w fun e w'=>e= .returned (.bool true)∧Ext w w':=by
  have HO:=Lib.hid (z6W 0 0 5000 w (by decide) (by decide) (by decide) (by decide))
  go_enter Tryz.func22,Tryz.ntmps22
  go_wp2_with fail
  refine HO.out.mono ?_
  rintro e w1 ⟨g,gs,rfl,hk⟩
  have hx1:=q0B w1 (.cells #[.string ⟨#[97]⟩,.string ⟨#[]⟩,.float .f64 0,.string ⟨#[98]⟩,.string ⟨#[]⟩,.float .f64 0] 48)
  obtain ⟨q,hq⟩: ∃q,w1.heap.size=q:=⟨_,rfl⟩
  have hbk:Blk (w1.alloc (.cells #[.string ⟨#[97]⟩,.string ⟨#[]⟩,.float .f64 0,.string ⟨#[98]⟩,.string ⟨#[]⟩,.float .f64 0] 48)) q 48 (q6N [evA,z8T]).toArray:=hq▸Blk.new w1 _ _
  have hk2:=hk.more (K':=fun i=>i=q) hx1 fun i hi=> .inr (by rw[World.size_alloc];omega)
  have HB:=Lib.hid hbk;have HK2:=Lib.hid hk2
  have HE2:Hid (∀W,Stay (fun i=>i=q) (w1.alloc (.cells #[.string ⟨#[97]⟩,.string ⟨#[]⟩,.float .f64 0,.string ⟨#[98]⟩,.string ⟨#[]⟩,.float .f64 0] 48)) W→Evs W (some ⟨q,0,none⟩) 2 2 [evA,z8T]∧Evs W (some ⟨q,0,none⟩) 1 2 [evA]):=Lib.hid fun W hs=>
    ⟨(hbk.same (hs q rfl)).evs (k:=2) (Nat.le_refl _) (by decide),(hbk.same (hs q rfl)).evs (k:=1) (by decide) (by decide)⟩
  have HA1:=Lib.hid (hk2.append (by omega) [115] (by decide) (-1) (L:=[evA,z8T]) (fun W _ hs=>(HE2.out W hs).1) (q8q (by decide)) (by decide) y1P)
  clear hk hx1 hbk hk2 HO
  go_wp2_with fail
  refine HA1.out.mono ?_
  rintro e w2 ⟨x,y,bs',rfl,hk,hst,hres⟩
  obtain ⟨rfl,rfl,rfl⟩:x=0∧y=0∧bs'=[st1]:=by
    rcases hres with ⟨h,_⟩|⟨_,_,_,_,h⟩|⟨_,rfl,rfl,rfl⟩
    · exact absurd rfl h
    · exact absurd h (by decide)
    · exact ⟨rfl,rfl,rfl⟩
  have HS2:=Lib.hid hst
  have HA2:=Lib.hid (hk.append (by omega) [115] (by decide) (-1) (L:=[evA]) (fun W _ hs=>(HE2.out W (HS2.out.trans hs)).2) (q8q (by decide)) (by decide) y1V)
  clear hk hst hres HA1
  go_wp2_with fail
  refine HA2.out.mono ?_
  rintro e w3 ⟨x,y,bs',rfl,hk,hst,hres⟩
  obtain ⟨rfl,rfl,rfl⟩:x=0∧y=80∧bs'=[st1]:=by
    rcases hres with ⟨_,rfl,rfl,rfl⟩|⟨h,_⟩|⟨h,_⟩
    · exact ⟨rfl,rfl,rfl⟩
    · exact absurd h (by decide)
    · exact absurd h (by decide)
  have HS3:=Lib.hid (HS2.out.trans hst)
  have HA3:=Lib.hid (hk.append (by omega) [115] (by decide) 1 (L:=[evA]) (fun W _ hs=>(HE2.out W (HS3.out.trans hs)).2) (q8q (by decide)) (by decide) y1O)
  clear hk hst hres HA2 HS2
  go_wp2_with fail
  refine HA3.out.mono ?_
  rintro e w4 ⟨x,y,bs',rfl,hk,hst,hres⟩
  obtain ⟨rfl,rfl,rfl⟩:x=2∧y=0∧bs'=[st1,st2]:=by
    rcases hres with ⟨h,_⟩|⟨_,_,_,_,h⟩|⟨_,rfl,rfl,rfl⟩
    · exact absurd rfl h
    · exact absurd h (by decide)
    · exact ⟨rfl,rfl,rfl⟩
  have HL:=Lib.hid (hk.last (by omega) [115] (by decide) y1R)
  clear hk hst hres HA3 HS3 HE2 HB HK2
  go_wp2_with fail
  refine HL.out.mono ?_
  rintro e w5 ⟨rfl,hk,hst⟩
  have HF:=Lib.hid (hk.forward (by omega) [115] (by decide) 1 9 (by decide) (by decide))
  rw[y1N,y1I] at HF
  clear hk hst HL
  go_wp2_with fail
  refine HF.out.mono ?_
  rintro e w6 ⟨v,rfl,hk,hst,hrow,hdj⟩
  obtain ⟨va,vc,rfl⟩:=q0I hrow
  have HR6:=Lib.hid hrow
  have HBk:=Lib.hid (hk.backward (by omega) [115] (by decide) 1 9 (by decide) (by decide))
  rw[y1S,y1I] at HBk
  clear hk hst hrow hdj HF
  go_wp2_with fail
  refine HBk.out.mono ?_
  rintro e w7 ⟨v2,rfl,hk,hst,hrow2,hdj⟩
  obtain ⟨ba,bc,rfl⟩:=q0I hrow2
  obtain ⟨t1,_⟩:=z3x (q1J HR6.out fun i hi=>hst i (.inr hi))
  obtain ⟨t2,_⟩:=z3x hrow2
  obtain ⟨b1,o1,rfl,c0,c1,c2,c3,c4⟩:=t1.at (i:=0) (by decide)
  obtain ⟨_,_,e1,d0,d1,d2,d3,d4⟩:=t1.at (i:=1) (by decide)
  cases e1
  obtain ⟨b2,o2,rfl,f0,f1,f2,f3,f4⟩:=t2.at (i:=0) (by decide)
  obtain ⟨_,_,e1,g0,g1,g2,g3,g4⟩:=t2.at (i:=1) (by decide)
  cases e1
  have HX:=Lib.hid hk.base
  clear hk hst hrow2 hdj t1 t2 HBk HR6
  go_wp2_with fail
  go_ret
  exact ⟨rfl,HX.out⟩
end Go.Proofs.YtjjfiejoeelndaaGreatDoor
namespace Go.Proofs.YtjjfiejoeelndaaGreatDoor
open Go.RowKit
set_option maxRecDepth 100000
set_option linter.unusedVariables false
set_option maxHeartbeats 6400000
def NoSt (w:World) (p:Option Addr):Prop:=p=none∨ ∃s,p=some ⟨s,0,none⟩∧Blk w s 86 #[.pointer none,.pointer none,.int .u64 0]
theorem NoSt.ext {w w':World} {p:Option Addr} (h:NoSt w p) (k:Ext w w'):NoSt w' p:=by
  rcases h with h|⟨s,h1,h2⟩
  · exact .inl h
  · exact .inr ⟨s,h1,h2.ext k⟩
variable {w :World} {p:Option Addr}
theorem q4E (h:NoSt w p):Calls Tryz.prog 36 #[.pointer p] w fun e w'=>e= .returned (.bool true)∧w=w':=by
  rcases h with rfl|⟨s,rfl,hb⟩
  · go_enter Tryz.func36,Tryz.ntmps36
    go_wp2_with fail
    go_ret
    exact ⟨rfl,rfl⟩
  · have c0:=hb.cell 0
    clear hb
    go_enter Tryz.func36,Tryz.ntmps36
    go_wp2_with fail
    go_ret
    exact ⟨rfl,rfl⟩
theorem z6l (h:NoSt w p):Calls Tryz.prog 29 #[.pointer p] w fun e w'=>e= .returned (.int .i64 1)∧w=w':=by
  have HN:=Lib.hid (q4E h)
  clear h
  go_enter Tryz.func29,Tryz.ntmps29
  go_wp2_with fail
  refine HN.out.mono ?_
  rintro e w1 ⟨rfl,rfl⟩
  go_wp2_with fail
  go_ret
  exact ⟨rfl,rfl⟩
theorem z7b (h:NoSt w p):Calls Tryz.prog 24 #[.pointer p] w fun e w'=>e= .returned (.int .i64 1)∧w=w':=by
  have HN:=Lib.hid (q4E h)
  clear h
  go_enter Tryz.func24,Tryz.ntmps24
  go_wp2_with fail
  refine HN.out.mono ?_
  rintro e w1 ⟨rfl,rfl⟩
  go_wp2_with fail
  go_ret
  exact ⟨rfl,rfl⟩
theorem z6T (h:NoSt w p) (a:Int):Calls Tryz.prog 25 #[.pointer p,.int .i64 a] w fun e w'=>e= .returned (.int .i64 1)∧w=w':=by
  have HN:=Lib.hid (q4E h)
  clear h
  go_enter Tryz.func25,Tryz.ntmps25
  go_wp2_with fail
  refine HN.out.mono ?_
  rintro e w1 ⟨rfl,rfl⟩
  go_wp2_with fail
  go_ret
  exact ⟨rfl,rfl⟩
theorem y0O (h:NoSt w p):Calls Tryz.prog 20 #[.pointer p] w fun e w'=>e= .returned (.tuple #[.slice none 0 0,.int .i64 1])∧w=w':=by
  have HN:=Lib.hid (q4E h)
  clear h
  go_enter Tryz.func20,Tryz.ntmps20
  go_wp2_with fail
  refine HN.out.mono ?_
  rintro e w1 ⟨rfl,rfl⟩
  go_wp2_with fail
  go_ret2
  exact ⟨rfl,rfl⟩
theorem z8f (h:NoSt w p) (str:List UInt8):Calls Tryz.prog 13 #[.pointer p,.string ⟨str.toArray⟩] w fun e w'=>e= .returned (.tuple #[.int .i64 (-1),.int .i64 1])∧w=w':=by
  have HN:=Lib.hid (q4E h)
  clear h
  go_enter Tryz.func13,Tryz.ntmps13
  go_wp2_with fail
  refine HN.out.mono ?_
  rintro e w1 ⟨rfl,rfl⟩
  go_wp2_with fail
  go_ret2
  exact ⟨rfl,rfl⟩
theorem z4Y (h:NoSt w p) (str:List UInt8) (a b:Int):Calls Tryz.prog 60 #[.pointer p,.string ⟨str.toArray⟩,.int .i64 a,.int .i64 b] w fun e w'=>e= .returned (.int .i64 1)∧w=w':=by
  have HN:=Lib.hid (q4E h)
  clear h
  go_enter Tryz.func60,Tryz.ntmps60
  go_wp2_with fail
  refine HN.out.mono ?_
  rintro e w1 ⟨rfl,rfl⟩
  go_wp2_with fail
  go_ret
  exact ⟨rfl,rfl⟩
theorem z2u (h:NoSt w p) (str:List UInt8) (a b:Int):Calls Tryz.prog 27 #[.pointer p,.string ⟨str.toArray⟩,.int .i64 a,.int .i64 b] w fun e w'=>e= .returned (.tuple #[.slice none 0 0,.int .i64 1])∧w=w':=by
  have HN:=Lib.hid (z4Y h str a b)
  clear h
  go_enter Tryz.func27,Tryz.ntmps27
  go_wp2_with fail
  refine HN.out.mono ?_
  rintro e w1 ⟨rfl,rfl⟩
  go_wp2_with fail
  go_ret2
  exact ⟨rfl,rfl⟩
theorem z0r (h:NoSt w p) (str:List UInt8) (a b:Int):Calls Tryz.prog 28 #[.pointer p,.string ⟨str.toArray⟩,.int .i64 a,.int .i64 b] w fun e w'=>e= .returned (.tuple #[.slice none 0 0,.int .i64 1])∧w=w':=by
  have HN:=Lib.hid (z4Y h str a b)
  clear h
  go_enter Tryz.func28,Tryz.ntmps28
  go_wp2_with fail
  refine HN.out.mono ?_
  rintro e w1 ⟨rfl,rfl⟩
  go_wp2_with fail
  go_ret2
  exact ⟨rfl,rfl⟩
theorem z1G (h:NoSt w p):Calls Tryz.prog 30 #[.pointer p] w fun e w'=>e= .returned (.agg #[.int .i64 0,.int .i64 0,.int .u64 0,.slice none 0 0])∧Ext w w':=by
  have hx1:=q0B w (.cells #[.int .i64 0,.int .i64 0,.int .u64 0,.slice none 0 0] 81)
  have HN:=Lib.hid (q4E (h.ext hx1))
  have hbk:=Blk.new w 81 #[.int .i64 0,.int .i64 0,.int .u64 0,.slice none 0 0]
  have HX:=Lib.hid hx1
  have HB:=Lib.hid hbk
  clear h hx1
  go_enter Tryz.func30,Tryz.ntmps30
  go_wp2_with fail
  refine HN.out.mono ?_
  rintro e w1 ⟨rfl,rfl⟩
  obtain ⟨k0,k1,k2,k3⟩:=(⟨hbk.cell 0,hbk.cell 1,hbk.cell 2,hbk.cell 3⟩:_∧_∧_∧_)
  go_wp2_with fail
  ((try simp only[Exit.inBlock,Exit.then]);refine bodyPost_ret (v:= .agg #[.int .i64 0,.int .i64 0,.int .u64 0,.slice none 0 0]) (by rw[q0m rfl];go_simp) rfl ?_)
  exact ⟨rfl,HX.out⟩
theorem z4M (h:NoSt w p) (str:List UInt8) (hs:str.length≤4611686018427387903) (ex:Int) {ao:Option Addr} {n cap:Nat} {L:List Ev} (hx:Evs w ao n cap L) (hL:q3A L):
    Calls Tryz.prog 17 #[.pointer p,.string ⟨str.toArray⟩,.int .i64 ex,.slice ao n cap] w fun e w'=>e= .returned (.tuple #[.int .i64 0,.int .i64 1])∧Ext w w':=by
  have hx1:=q0B w (.cells #[.string ⟨str.toArray⟩,.int .i64 0,.slice ao n cap] 102)
  have hbk:=Blk.new w 102 #[.string ⟨str.toArray⟩,.int .i64 0,.slice ao n cap]
  have HCk:=Lib.hid (q6O str 0 _ (hx.ext hx1) hs hL)
  have HN:=Lib.hid (fun W (k:Ext (w.alloc (.cells #[.string ⟨str.toArray⟩,.int .i64 0,.slice ao n cap] 102)) W)=>q4E ((h.ext hx1).ext k))
  have HX1:=Lib.hid hx1
  have k0:=hbk.cell 0;have k1:=hbk.cell 1;have k2:=hbk.cell 2
  clear hx hx1 hbk h
  go_enter Tryz.func17,Tryz.ntmps17
  go_wp2_with fail
  refine HCk.out.mono ?_
  rintro e w1 ⟨rfl,hx⟩
  have HX:=Lib.hid hx
  clear hx k0 k1 k2
  go_wp2_with fail
  refine (HN.out _ HX.out).mono ?_
  rintro e w2 ⟨rfl,rfl⟩
  go_wp2_with fail
  go_ret2
  exact ⟨rfl,HX1.out.trans HX.out⟩
theorem NoSt.new (w:World):NoSt (w.alloc (.cells #[.pointer none,.pointer none,.int .u64 0] 86)) (some ⟨w.heap.size,0,none⟩):= .inr ⟨_,rfl,Blk.new w 86 #[.pointer none,.pointer none,.int .u64 0]⟩
theorem q7n (w:World) (q:Option Addr) (sd:Int) (rate:Nat) {n:Int} (hn:n=1∨n=61)
    (hL:Calls Tryz.prog 58 #[.pointer q] w fun e w'=>e= .returned (.tuple #[.pointer none,.int .i64 n])∧w=w'):
    Calls Tryz.prog 26 #[.pointer q,.int .u64 sd,.float .f64 rate] w fun e w'=>e= .returned (.tuple #[.pointer none,.int .i64 n])∧w=w':=by
  have HL:=Lib.hid hL
  clear hL
  rcases hn with rfl|rfl
  all_goals
    go_enter Tryz.func26,Tryz.ntmps26
    go_wp2_with fail
    refine HL.out.mono ?_
    rintro e w1 ⟨rfl,rfl⟩
    go_wp2_with fail
    go_ret2
    exact ⟨rfl,rfl⟩
end Go.Proofs.YtjjfiejoeelndaaGreatDoor
namespace Go.Proofs.YtjjfiejoeelndaaGreatDoor
open Go.RowKit
set_option maxRecDepth 100000
set_option linter.unusedVariables false
set_option maxHeartbeats 12800000
theorem q9C (σ:DM):(q5m σ []).down=true:=rfl
theorem z8W (w:World) (x:Acm) (hx:Evs w x.ao x.n x.cap x.L) (hok:z9P x):Acs (w.alloc (.cells #[.int .u8 x.kd,.string ⟨x.st.toArray⟩,.int .i64 x.a,.int .i64 x.b,.slice x.ao x.n x.cap] 30)) (some ⟨w.heap.size,0,none⟩) 1 1 [x]:=by
  refine ⟨rfl,Nat.le_refl _,by omega,(fun h=>by cases h),?_,fun y hy=>?_,fun y hy=>?_⟩
  · intro j u hj
    have:=(Blk.new w 30 #[.int .u8 x.kd,.string ⟨x.st.toArray⟩,.int .i64 x.a,.int .i64 x.b,.slice x.ao x.n x.cap]).rd j u (by simpa [z9U,acc] using hj)
    exact this
  · rw[List.mem_singleton.1 hy];exact hx.ext (q0B _ _)
  · rw[List.mem_singleton.1 hy];exact hok
theorem z4q {A:List Acm} {m:Int} (h:q5l A m=false):(A.length:Int)≤m∧ ∀x∈A,x.st.length≤300∧x.n≤20∧ ∀e∈x.L,e.ty.length≤300∧e.da.length≤300:=by
  unfold q5l at h
  rw[Bool.or_eq_false_iff] at h
  refine ⟨by have:=of_decide_eq_false h.2;omega,fun x hx=>?_⟩
  have h1:=List.any_eq_false.1 h.1 x hx
  unfold q3I at h1
  simp only[Bool.or_eq_true,not_or,decide_eq_true_eq] at h1
  refine ⟨by omega,by omega,fun e he=>?_⟩
  have h2:=List.any_eq_false.1 (by simpa using h1.2) e he
  unfold q4y at h2
  simp only[Bool.or_eq_true,not_or,decide_eq_true_eq] at h2
  omega
theorem storenone_c (x:Acm) (sd:Int) (rate:Nat) (room:Int) (w:World) (hx:Evs w x.ao x.n x.cap x.L) (hok:z9P x):
    Calls Tryz.prog 7 #[acV x,.agg #[.int .u64 sd,.float .f64 rate,.int .u16 room]] w fun e w'=>e= .returned (.bool true)∧Ext w w':=by
  have hx1:=q0B w (.cells #[.int .u8 x.kd,.string ⟨x.st.toArray⟩,.int .i64 x.a,.int .i64 x.b,.slice x.ao x.n x.cap] 30)
  obtain ⟨WA,hWA⟩: ∃WA,w.alloc (.cells #[.int .u8 x.kd,.string ⟨x.st.toArray⟩,.int .i64 x.a,.int .i64 x.b,.slice x.ao x.n x.cap] 30)=WA:=⟨_,rfl⟩
  have hx2:=q0B WA (.cells #[.int .u64 sd,.float .f64 rate,.int .u16 room] 27)
  obtain ⟨WB,hWB⟩: ∃WB,WA.alloc (.cells #[.int .u64 sd,.float .f64 rate,.int .u16 room] 27)=WB:=⟨_,rfl⟩
  have hx3:=q0B WB (.cells #[.int .u8 x.kd,.string ⟨x.st.toArray⟩,.int .i64 x.a,.int .i64 x.b,.slice x.ao x.n x.cap] 30)
  have ha:=z8W WB x (hx.ext ((hWA▸hx1).trans (hWB▸hx2))) hok
  have hb1:=Blk.new w 30 #[.int .u8 x.kd,.string ⟨x.st.toArray⟩,.int .i64 x.a,.int .i64 x.b,.slice x.ao x.n x.cap]
  have hb2:=Blk.new WA 27 #[.int .u64 sd,.float .f64 rate,.int .u16 room]
  subst hWA
  subst hWB
  rw[World.size_alloc,World.size_alloc] at ha
  rw[World.size_alloc] at hb2
  have HG:=Lib.hid (z8e 1 _ ha)
  have HX:=Lib.hid ((hx1.trans hx2).trans hx3)
  have HE:=Lib.hid hx
  have HB1:=Lib.hid ((hb1.ext hx2).ext hx3)
  have HB2:=Lib.hid (hb2.ext hx3)
  have hc1:=hb1.ext hx2
  have k0:=hc1.cell 0;have k1:=hc1.cell 1;have k2:=hc1.cell 2;have k3:=hc1.cell 3;have k4:=hc1.cell 4
  obtain ⟨z,hz⟩: ∃z,q5l [x] 1=z:=⟨_,rfl⟩
  rw[hz] at HG
  clear hx hx1 hx2 hx3 ha hb1 hb2 hc1
  unfold acV
  go_enter Tryz.func7,Tryz.ntmps7
  go_wp2_with fail
  refine HG.out.mono ?_
  rintro e w1 ⟨rfl,hx⟩
  have HX1:=Lib.hid (HX.out.trans hx)
  have HA1:=Lib.hid (HB1.out.ext hx)
  have HA2:=Lib.hid (HB2.out.ext hx)
  clear hx HG k0 k1 k2 k3 k4
  cases z with
  | true=>
    go_wp2_with fail
    refine (z1i w1).mono ?_
    rintro e w2 ⟨rfl,hx⟩
    have HX2:=Lib.hid (HX1.out.trans hx)
    clear hx
    go_wp2_with fail
    go_ret
    exact ⟨rfl,HX2.out⟩
  | false=>
    have hng:=(z4q hz).2 x (.head _)
    have HNg:=Lib.hid hng
    have HOp:=Lib.hid (show Evs w1 x.ao x.n x.cap x.L from HE.out.ext HX1.out)
    have hstl:x.st.length≤4611686018427387903:=by omega
    have hsh:q3A x.L:=fun e he=>by have:=hng.2.2 e he;omega
    have HSh:=Lib.hid hsh
    clear hng hsh hz
    go_wp2_with fail
    go_loopw [5,6] (fun o o2 W=> ∃p:Option Addr,∃k:Nat,k≤2∧o= .pointer p∧o2= .int .i64 (k:Int)∧Hid (k<2→NoSt W p)∧Ext w1 W) (fun _ i _=>2-(intOf i).toNat)
    case atStart=>exact ⟨none,0,by omega,rfl,rfl,Lib.hid fun _=> .inl rfl,Ext.refl _⟩
    case round=>
      obtain ⟨p,k,hk,rfl,rfl,HNo,hb⟩:=hrel
      have HB:=Lib.hid hb
      by_cases hlt:k<2
      · have hd:decide ((k:Int)<(2:Int))=true:=decide_eq_true (by omega)
        have q8:IntKind.i64.wrap ((k:Int)+1)=(k:Int)+1:=by rw[IntKind.wrap_i64];omega
        have hno:=HNo.out hlt
        have hc1:=HA1.out.ext hb
        have k0:=hc1.cell 0;have k1:=hc1.cell 1;have k2:=hc1.cell 2;have k3:=hc1.cell 3;have k4:=hc1.cell 4
        have HAp:=Lib.hid (z4M hno x.st hstl x.a (HOp.out.ext hb) HSh.out)
        have HNs:=Lib.hid (fun W (k:Ext wr W)=>hno.ext k)
        have HCx:=Lib.hid (fun W (k:Ext wr W)=>hc1.ext k)
        clear hb hno hc1
        go_wp2_with fail
        refine HAp.out.mono ?_
        rintro e w2 ⟨rfl,hx⟩
        have hc1:=HCx.out _ hx
        have k0:=hc1.cell 0;have k1:=hc1.cell 1;have k2:=hc1.cell 2;have k3:=hc1.cell 3;have k4:=hc1.cell 4
        have HX2:=Lib.hid (HB.out.trans hx)
        have HNo2:=Lib.hid (HNs.out _ hx)
        clear hx hc1 HAp
        go_wp2_with fail
        refine (z2u HNo2.out x.st x.a x.b).mono ?_
        rintro e w2' ⟨rfl,rfl⟩
        go_wp2_with fail
        refine (z0r HNo2.out x.st x.a x.b).mono ?_
        rintro e w2' ⟨rfl,rfl⟩
        go_wp2_with fail
        refine (z8f HNo2.out x.st).mono ?_
        rintro e w2' ⟨rfl,rfl⟩
        go_wp2_with fail
        refine (y0O HNo2.out).mono ?_
        rintro e w2' ⟨rfl,rfl⟩
        go_wp2_with fail
        refine (z6l HNo2.out).mono ?_
        rintro e w2' ⟨rfl,rfl⟩
        go_wp2_with fail
        refine (z7b HNo2.out).mono ?_
        rintro e w2' ⟨rfl,rfl⟩
        go_wp2_with fail
        refine (z6T HNo2.out x.a).mono ?_
        rintro e w2' ⟨rfl,rfl⟩
        go_wp2_with fail
        refine (z1G HNo2.out).mono ?_
        rintro e w3 ⟨rfl,hx⟩
        have HX3:=Lib.hid ((HX2.out.trans hx).trans (q0B w3 (.cells #[.pointer none,.pointer none,.int .u64 0] 86)))
        have HNw:=Lib.hid (NoSt.new w3)
        have HRn:Hid (Sem.run Tryz.prog (Instr.field 81 (Value.agg #[Value.int IntKind.i64 0,Value.int IntKind.i64 0,Value.int IntKind.u64 0,Value.slice none 0 0]) 0) w3= .ok (.int .i64 0) w3):=Lib.hid (by first|rfl|(simp[go_sem,Tryz.underlying81];done)|(go_simp;rfl))
        clear hx k0 k1 k2 k3 k4
        go_wp2_with fail
        rw[HRn.out]
        go_wp2_with fail
        go_roundw
        case rel=>exact ⟨_,k+1,by omega,rfl,by go_num,Lib.hid fun _=>HNw.out,HX3.out⟩
        case measure=>simp[intOf];omega
      · obtain rfl:k=2:=by omega
        have hd:decide (((2:Nat):Int)<(2:Int))=false:=decide_eq_false (by omega)
        have hc2:=HA2.out.ext hb
        have HCx:=Lib.hid (fun W (k:Ext wr W)=>hc2.ext k)
        have HN:=Lib.hid (DkX.make wr 9000 (by decide) (by decide))
        clear hb hc2
        go_wp2_with fail
        refine HN.out.mono ?_
        rintro e w2 ⟨g,rfl,hdk⟩
        have hx:=hdk.base
        have hc2:=HCx.out _ hx
        have k0:=hc2.cell 0;have k1:=hc2.cell 1;have k2:=hc2.cell 2
        have H1:=Lib.hid (q7n w2 none sd rate (.inl rfl) (z8U w2 none (.inl rfl)))
        have H3:=Lib.hid (hdk.crash rfl)
        clear hx hdk hc2 HN
        go_wp2_with fail
        refine H1.out.mono ?_
        rintro e w2' ⟨rfl,rfl⟩
        clear k0 k1 k2
        go_wp2_with fail
        refine H3.out.mono ?_
        rintro e w4 ⟨rfl,hd4,_⟩
        have hx4:=hd4.base
        obtain ⟨F4,hF4⟩:=hd4
        have hc2:=HCx.out _ hx4
        have k0:=hc2.cell 0;have k1:=hc2.cell 1;have k2:=hc2.cell 2
        have H4:=Lib.hid (q7n w4 (some ⟨g,0,none⟩) sd rate (.inr rfl) (z5a hF4.d (q9C (z3s 9000))))
        have HX4:=Lib.hid (HX1.out.trans (HB.out.trans hx4))
        clear hF4 hx4 hc2 H1 H3
        go_wp2_with fail
        refine H4.out.mono ?_
        rintro e w4' ⟨rfl,rfl⟩
        clear k0 k1 k2
        go_wp2_with fail
        refine (z1i _).mono ?_
        rintro e w5 ⟨rfl,hx⟩
        have HX5:=Lib.hid (HX4.out.trans hx)
        clear hx
        go_wp2_with fail
        go_ret
        exact ⟨rfl,HX5.out⟩
end Go.Proofs.YtjjfiejoeelndaaGreatDoor
