/- Walks. -/
import Derived.Test.YthdekbmdkpcooaaGreatDoorG44WP
import Derived.Deep.RegionHeldLaw
set_option linter.unusedVariables false
set_option linter.unusedSimpArgs false
set_option maxRecDepth 100000
set_option maxHeartbeats 12800000
namespace Go.Proofs.YthdekbmdkpcooaaGreatDoor
theorem η45 {p:Prop} (h:p):Go.RowKit.Hid p:=Lib.hid h
section
open Go.RowKit
theorem z6T {b:Bt} {ao:Option Addr} {n cap:Nat} (w:World) (hx:Evs w ao n cap b.ev) (hok:z1a b):
  Calls Tryz.prog 42 #[.agg #[.string ⟨b.st.toArray⟩,.int .i64 (b.fi:Int),.slice ao n cap]] w fun e w'=> ∃S:List UInt8,e= .returned (.tuple #[.string ⟨S.toArray⟩,.int .i64 0])∧Ext w w':=by
 obtain ⟨p1,p2,p3,p4,p5,p6,p7⟩:=q0j hok.1;have hev: ∀e∈b.ev,z6V e:=fun e he=>⟨q5m p7 e he,hok.2 e he⟩
 have hsh:q1C b.ev:=fun e he=>by
  obtain ⟨_,h1,h2⟩:=q1k (hev e he).1;exact ⟨by omega,by omega⟩
 have hlen:=hx.len;obtain ⟨st,fi,L⟩:=b;simp only at p1 p2 p3 p4 p5 p6 p7 hev hsh hlen hx;have b1:=hx.fits;have b2:=hx.bound;have hc0:q0N st (fi:Int) L=0:=hok.1;have HC:=η45 (fun W (h:Evs W ao n cap L)=>q7h st (fi:Int) W h (by omega) hsh);rw[hc0] at HC;have HT:=η45 (fun W=>q7e st W (by omega));have HP8:=η45 (fun W=>z3E (fi:Int) 8 8 W rfl (by omega) (by omega) (by omega) (by omega));rw[Int.toNat_natCast] at HP8;have l1:(q1e st).length≤50:=by rw[q1V (by omega)];simp[q0H];omega
 have l8:(be 8 fi).length≤8:=by rw[q0H];omega
 have HOk:=η45 hev;have HLn:=η45 hlen;have HEv:=η45 hx;have qf:IntKind.u64.wrap (fi:Int)=(fi:Int):=by rw[IntKind.wrap_u64];omega
 have qn:IntKind.u8.wrap (n:Int)=(n:Int):=by unfold IntKind.wrap;simp[IntKind.bits];omega
 have hn9:n≤8:=by omega
 have HX:=η45 (q0B w (.cells #[.string ⟨st.toArray⟩,.int .i64 (fi:Int),.slice ao n cap] 96));have HB0:=η45 (Blk.new w 96 #[.string ⟨st.toArray⟩,.int .i64 (fi:Int),.slice ao n cap]);have hbk:=HB0.out;have k0:=hbk.cell 0;have k1:=hbk.cell 1;have k2:=hbk.cell 2;generalize q1e st=A at*;generalize be 8 fi=D at*;clear hbk hok p1 p2 p3 p4 p5 p6 p7 hev hsh hlen hx hc0;go_enter Tryz.func42,Tryz.ntmps42;go_wp2_with fail;refine (HC.out _ (HEv.out.ext HX.out)).mono ?_;rintro e w1 ⟨rfl,hx⟩;have HX1:=η45 (HX.out.trans hx);have hb1:=HB0.out.ext hx;generalize w.heap.size=q at*;have c0:w1.cell? ⟨q,0,none⟩=some (.string ⟨st.toArray⟩):=hb1.cell 0;have c1:w1.cell? ⟨q,1,none⟩=some (.int .i64 (fi:Int)):=hb1.cell 1;have c2:w1.cell? ⟨q,2,none⟩=some (.slice ao n cap):=hb1.cell 2;have u0:=q0D c0;have u1:=q0D c1;have u2:=q0D c2;have HB1:=η45 hb1;have q1:¬(9223372036854775807<A.length+D.length):=by omega
 clear hx hb1 k0 k1 k2
 go_upto_region 4 with fail
 have d0:=q0A (Ext.refl _).drew c0;have d1:=q0A (Ext.refl _).drew c1;have d2:=q0A (Ext.refl _).drew c2;have HSx:=η45 (fun W (k:Ext w1 W)=>(show W.cell? ⟨q,0,none⟩=some (.string ⟨st.toArray⟩)∧W.cell? ⟨q,1,none⟩=some (.int .i64 (fi:Int))∧W.cell? ⟨q,2,none⟩=some (.slice ao n cap) from ⟨q0A k c0,q0A k c1,q0A k c2⟩));have hby:(n:Int)=((UInt8.ofNat n).toNat:Int):=by rw[UInt8.toNat_ofNat'];omega
 have hcv:=fun W=>q8l (P:=Tryz.prog) W 154 9 5 (n:Int) _ Tryz.underlying154 Tryz.underlying5 Tryz.underlying9 hby
 have HCv:Hid (∀W0 W,Ext (World.alloc W0 (.cells #[.int .u8 (n:Int)] 5)) W→(convert 154 9 (.slice (some ⟨W0.heap.size,0,none⟩) 1 1)).run Tryz.prog W= .ok (.string ⟨#[UInt8.ofNat n]⟩) W):=η45 fun W0 W k=>by
  rw[hby] at k;exact q2d (l:=[UInt8.ofNat n]) W 154 9 5 Tryz.underlying154 Tryz.underlying5 Tryz.underlying9 rfl ((Rd.lit W0 #[.int .u8 ((UInt8.ofNat n).toNat:Int)] 5).ext k)
 have hcvd:=fun W0:World=>HCv.out W0 _ ((Ext.refl (World.alloc W0 (.cells #[.int .u8 (n:Int)] 5))).drew)
 have q2:¬(9223372036854775807<A.length+D.length+1):=by omega
 have q3:¬(9223372036854775807<(A++D).length+1):=by rw[List.length_append];omega
 clear hby
 go_cut [5] from 12 to 26 (fun s W=> ∃S:List UInt8,s= .string ⟨S.toArray⟩∧S.length≤100∧Ext w1 W)
 case first=>
  go_region_held_law (fun W=>(W.cell? ⟨q,0,none⟩=some (.string ⟨st.toArray⟩)∧W.cell? ⟨q,1,none⟩=some (.int .i64 (fi:Int))∧W.cell? ⟨q,2,none⟩=some (.slice ao n cap))∧Hid (Ext w1 W))
   (first|assumption|exact ⟨HSx.out _ HXa.out,HXa⟩|exact (fun h=>⟨HSx.out _ h,η45 h⟩) (Ext.trans (Hid.out (And.right (by assumption))) (q0B _ _))|exact (fun h=>⟨HSx.out _ h,η45 h⟩) ((Ext.refl w1).drew.trans (q0B _ _))|exact ⟨⟨d0,d1,d2⟩,η45 (Ext.refl _).drew⟩)
   (first|(go_at_call 82;refine (HT.out _).mono ?_;rintro e wa ⟨rfl,hxa⟩;have HXa:=η45 (Ext.trans (Hid.out (And.right (a:=_) (by assumption))) hxa);(try have HXc:=η45 (show Ext (World.alloc _ (.cells #[.int .u8 (n:Int)] 5)) _ from hxa));(try have HXc:=η45 (Ext.trans ((Ext.refl (World.alloc _ (.cells #[.int .u8 (n:Int)] 5))).drew) hxa));(try have HXc:=η45 (Ext.trans HXc.out hxa));(try have hcq:=HCv.out _ _ HXc.out);(try rw[show (World.drew w1).heap.size=w1.heap.size from rfl] at hcq);clear hxa)|(go_at_call 83;refine (HP8.out _).mono ?_;rintro e wa ⟨rfl,hxa⟩;have HXa:=η45 (Ext.trans (Hid.out (And.right (a:=_) (by assumption))) hxa);(try have HXc:=η45 (show Ext (World.alloc _ (.cells #[.int .u8 (n:Int)] 5)) _ from hxa));(try have HXc:=η45 (Ext.trans ((Ext.refl (World.alloc _ (.cells #[.int .u8 (n:Int)] 5))).drew) hxa));(try have HXc:=η45 (Ext.trans HXc.out hxa));(try have hcq:=HCv.out _ _ HXc.out);(try rw[show (World.drew w1).heap.size=w1.heap.size from rfl] at hcq);clear hxa))
  all_goals
   go_wp2_with fail
   go_meet
   case rel=>exact ⟨(A++D)++[UInt8.ofNat n],by first|rfl|(rw[q2K,q2K];simp),by simp;omega,Hid.out (And.right (by assumption))⟩
 case rest=>
 obtain ⟨S,rfl,hSl,hcx⟩:=hcut;have HXc:=η45 hcx;have hb2:=HB1.out.ext hcx;clear hcx d0 d1 d2 c0 c1 c2 u0 u1 u2 HSx;go_wp2_with fail
 go_loopw [5,6] (fun sv iv W=> ∃(k:Nat) (T:List UInt8),k≤n∧iv= .int .i64 (k:Int)∧sv= .string ⟨T.toArray⟩∧T.length≤100+300*k∧Ext w1 W) (fun _ i _=>n-(intOf i).toNat)
 case atStart=>exact ⟨0,S,Nat.zero_le _,rfl,rfl,by omega,HXc.out⟩
 case round=>
  obtain ⟨k,T,hk,rfl,rfl,hTl,hb⟩:=hrel;have HBx:=η45 hb;have hbk:=HB1.out.ext hb;have d0:=hbk.cell 0;have d1:=hbk.cell 1;have d2:=hbk.cell 2;by_cases hlt:k<n
  ·have hd7:decide ((k:Int)<(n:Int))=true:=decide_eq_true (by omega)
   have hki:(k:Int)<(n:Int):=by omega
   obtain ⟨b,off,rfl,c0,c1,c2⟩:=(HEv.out.ext (HX1.out.trans hb)).at hlt;have hkL:k<L.length:=by rw[HLn.out];exact hlt
   have hmem:L.getD k ev0∈L:=by rw[List.getD_eq_getElem?_getD,List.getElem?_eq_getElem hkL];exact List.getElem_mem hkL
   have he:=HOk.out _ hmem;have q4:IntKind.i64.wrap ((k:Int)+1)=(k:Int)+1:=by rw[IntKind.wrap_i64];omega
   generalize L.getD k ev0=y at*;obtain ⟨y1,y2,y3⟩:=y;have hs:=z5r he;have HCk:Hid (∀W,Calls Tryz.prog 84 #[.agg #[.string ⟨y1.toArray⟩,.string ⟨y2.toArray⟩,.float .f64 y3]] W fun r w'=>r= .returned (.string ⟨(evB ⟨y1,y2,y3⟩).toArray⟩)∧Ext W w'):=η45 fun W=>z1O ⟨y1,y2,y3⟩ W he
   obtain ⟨Y,hY⟩: ∃Y,evB ⟨y1,y2,y3⟩=Y:=⟨_,rfl⟩
   rw[hY] at HCk hs;simp only at c0 c1 c2;have q5:¬(9223372036854775807<T.length+Y.length):=by omega
   clear hkL hmem hb he hY hbk;go_wp2_with fail;refine (HCk.out _).mono ?_;rintro e w3 ⟨rfl,hx⟩;have HX3:=η45 (HBx.out.trans hx);clear hx;go_wp2_with fail
   go_roundw
   case rel=>exact ⟨k+1,T++Y,by omega,by go_num,(by first|rfl|(rw[q2K])),by rw[List.length_append];omega,HX3.out⟩
   case measure=>simp[intOf];omega
  ·obtain rfl:k=n:=by omega
   have hd7:decide ((k:Int)<(k:Int))=false:=decide_eq_false (by omega);clear hb hbk;go_wp2_with fail;go_ret2;exact ⟨T,rfl,HX1.out.trans HBx.out⟩
end
section
open Go.RowKit
theorem z7u {w:World} {mb base:Nat} {vL vM:Value} {bs:List Bt} {ms:List Value} (h:MoI w mb base vL vM (tos bs) ms) (hok:okBs bs) (str:List UInt8) (hs:str.length≤4611686018427387903) (hl:(tos bs).length≤100000):
  Calls Tryz.prog 33 #[.pointer (some ⟨mb,0,none⟩),.string ⟨str.toArray⟩] w fun e w'=>e= .returned (.tuple #[.int .i64 (q3c bs str).1,.int .i64 (q3c bs str).2])∧Ext w w':=by
 have HS:=η45 (z1X str w (by omega));have HM:=η45 (fun W (k:Ext w W)=>q6n (h.ext k) str hl);have hN:((tos bs).filter fun t=>decide (t.s=str)).length=(q0T bs str).length:=by rw[q3l hok,q4x]
 have hle:=List.length_filter_le (fun t:To=>decide (t.s=str)) (tos bs);generalize ((tos bs).filter fun t=>decide (t.s=str))=R at*;have HL:Hid (q3c bs str=if q1s str=true then ((R.length:Int)-1,0) else (-1,2)):=η45 (by unfold q3c;rw[hN]);obtain ⟨z,hz⟩: ∃z,q1s str=z:=⟨_,rfl⟩
 rw[hz] at HS HL;obtain ⟨n,hn⟩: ∃n,R.length=n:=⟨_,rfl⟩
 rw[hn] at HL hle HM;have q1:IntKind.i64.wrap ((n:Int)-1)=(n:Int)-1:=by rw[IntKind.wrap_i64];omega
 clear h hN hz hok
 cases z with
 | false=>
  have HL2:Hid (q3c bs str=(-1,2)):=η45 (by rw[HL.out];rfl);go_enter Tryz.func33,Tryz.ntmps33;go_wp2_with fail;refine HS.out.mono ?_;rintro e w1 ⟨rfl,hx⟩;have HX:=η45 hx;clear hx;go_wp2_with fail;go_ret2;exact ⟨by rw[HL2.out];rfl,HX.out⟩
 | true=>
  have HL2:Hid (q3c bs str=((n:Int)-1,0)):=η45 (by rw[HL.out];rfl);go_enter Tryz.func33,Tryz.ntmps33;go_wp2_with fail;refine HS.out.mono ?_;rintro e w1 ⟨rfl,hx⟩;have HX:=η45 hx;clear hx;go_wp2_with fail;refine (HM.out _ HX.out).mono ?_;rintro e w2 ⟨v,rfl,hrow,hx⟩;obtain ⟨va,vc,rfl⟩:=q0G hrow;have HX2:=η45 (HX.out.trans hx);clear hx hrow;go_wp2_with fail;go_ret2;exact ⟨by rw[HL2.out];rfl,HX2.out⟩
theorem q9w {w:World} {mb base:Nat} {vL vM:Value} {L:List To} {ms:List Value} (h:MoI w mb base vL vM L ms) (hm:ms.length≤100000):
  Calls Tryz.prog 47 #[.pointer (some ⟨mb,0,none⟩)] w fun e w'=>e= .returned (.tuple #[])∧w'.heap.size=w.heap.size∧(∀i,i≠mb→w'.heap[i]? =w.heap[i]?)∧(∀w0:World,Below w0.heap.size w0 w→w0.heap.size≤mb→Below w0.heap.size w0 w')∧ ∃su:Int,Blk w' mb 38 #[vL,vM,.int .i64 su]:=by
 obtain ⟨ma,mc,rfl⟩:=q0G h.rowM;obtain ⟨su,hb⟩:=h.blk;have k1:=hb.cell 1;have k2:=hb.cell 2;have f2:=hb.free 2;have HB:=η45 hb;obtain ⟨n,hn⟩: ∃n,ms.length=n:=⟨_,rfl⟩
 rw[hn] at k1 HB hm⊢;clear h hb hn;go_enter Tryz.func47,Tryz.ntmps47;go_wp2_with fail
 go_end0
 exact ⟨rfl,by rw[World.size_setCell],fun i hi=>heap_setCell_other w ⟨mb,2,none⟩ i _ hi,fun w0 k1 k2=>Below.setCell k1 k2 _,_,HB.out.set 2 _⟩
end
section
open Go.RowKit
def Ios (w W:World):Prop:=W.os=w.os∧W.tape=w.tape∧W.output=w.output
theorem Ios.trans {a b c:World} (h:Ios a b) (k:Ios b c):Ios a c:=⟨k.1.trans h.1,k.2.1.trans h.2.1,k.2.2.trans h.2.2⟩
theorem Ios.of_ext {a b:World} (h:Ext a b):Ios a b:=⟨h.os,h.tape,h.output⟩
def MoAppR (w:World) (mb base:Nat) (vL vM:Value) (bs:List Bt) (m:Nat) (str:List UInt8) (L:List Ev) (z:Int) (e:Ending) (w':World):Prop:=
 ∃ vL' vM' ms' bs' x y,e= .returned (.tuple #[.int .i64 x,.int .i64 y])∧MoI w' mb base vL' vM' (tos bs') ms'∧ms'.length≤m+1∧w.heap.size≤w'.heap.size∧(∀i,i<w.heap.size→¬MoB mb vL vM i→w'.heap[i]? =w.heap[i]?)∧(∀i,MoB mb vL' vM' i→MoB mb vL vM i∨w.heap.size≤i)∧
  ((z≠0∧x=0∧y=z∧bs'=bs)∨(z=0∧x=((q0T bs str).length:Int)∧y=0∧bs'=bs++[⟨str,(q0T bs str).length,L⟩]))∧Ios w w'
theorem MoAppR.no {w w':World} {mb base:Nat} {vL vM:Value} {bs:List Bt} {ms:List Value} {str:List UInt8} {L:List Ev} {z:Int} (h:MoI w mb base vL vM (tos bs) ms) (hz:z≠0) (k:Ext w w'):MoAppR w mb base vL vM bs ms.length str L z (.returned (.tuple #[.int .i64 0,.int .i64 z])) w':=
 ⟨vL,vM,ms,bs,0,z,rfl,h.ext k,Nat.le_succ _,k.size,fun i hi _=>k.block i hi,fun i hi=> .inl hi,.inl ⟨hz,rfl,rfl,rfl⟩,Ios.of_ext k⟩
structure MoMid (w:World) (mb base:Nat) (vL vM:Value) (T:List To) (ms:List Value) (v2:Value) (W:World):Prop where
 mo:MoI W mb base v2 vM T ms
 size:w.heap.size≤W.heap.size
 off: ∀i,i<w.heap.size→¬MoB mb vL vM i→W.heap[i]? =w.heap[i]?
 grew: ∀i,v2.ownBlock=some i→vL.ownBlock=some i∨w.heap.size≤i
 ios:Ios w W
theorem MoMid.start {w w3:World} {mb base:Nat} {vL vM:Value} {T T':List To} {ms:List Value} (h:MoI w mb base vL vM T ms) (k:Ext w w3) (e:T'=T):MoMid w mb base vL vM T' ms vL w3:=by
 subst e;exact ⟨h.ext k,k.size,fun i hi _=>k.block i hi,fun i hi=> .inl hi,Ios.of_ext k⟩
theorem z3m {W:World} {B B':Nat} {e e':TypeId} {sz sz':Nat} {v v':Value} {n n':Nat} {xs xs':List Value} (h:W.ownsRow B e sz v n xs) (h':W.ownsRow B' e' sz' v' n' xs') (hne:e≠e'): ∀i,v.ownBlock=some i→v'.ownBlock≠some i:=fun i hi hi'=>by
 obtain ⟨cur,hc⟩:=q3F h hi;obtain ⟨cur',hc'⟩:=q3F h' hi';rw[hc] at hc'
 cases hc';exact hne rfl
theorem MoI.apart {W:World} {mb base:Nat} {vL vM:Value} {L:List To} {ms:List Value} (h:MoI W mb base vL vM L ms):vL.ownBlock≠some mb∧vM.ownBlock≠some mb∧ ∀i,vL.ownBlock=some i→vM.ownBlock≠some i:=by
 obtain ⟨su,hb⟩:=h.blk;exact ⟨hb.apart h.rowL (by decide),hb.apart h.rowM (by decide),z3m h.rowL h.rowM (by decide)⟩
theorem MoMid.told {w W Wd W8:World} {mb base:Nat} {vL vM v2 v3:Value} {T:List To} {ms:List Value} {t:To} {lit:Obj} (hm:MoMid w mb base vL vM T ms v2 W) (hmw:mb<w.heap.size) (hWd:Wd.heap=W.heap) (hWi:Ios W Wd)
  (hown:W8.ownsRow base 87 5 v3 (T.length+1) (q5E T++toc t)) (hg:(Wd.alloc lit).grownBy W8 v2.ownBlock) (hat:v3.ownBlock=v2.ownBlock∨v3.ownBlock=some (Wd.alloc lit).heap.size):
  MoMid w mb base vL vM (T++[t]) ms v3 (W8.setCell ⟨mb,0,none⟩ v3)∧(∀i,i<W.heap.size→v2.ownBlock≠some i→W8.heap[i]? =W.heap[i]?):=by
 obtain ⟨su,hb⟩:=hm.mo.blk;obtain ⟨a1,a2,a3⟩:=hm.mo.apart;have hsz:(Wd.alloc lit).heap.size=W.heap.size+1:=by rw[World.size_alloc,hWd]
 have hold: ∀i,i<W.heap.size→v2.ownBlock≠some i→W8.heap[i]? =W.heap[i]? :=fun i hi hn=>by
  rw[hg.block i (by omega) (fun e=>hn e.symm),(q0B Wd lit).block i (by rw[hWd];exact hi),hWd]
 have hlm:mb<W.heap.size:=hb.lt;have h3:v3.ownBlock≠some mb:=fun e=>by
  rcases hat with h|h
  ·exact a1 (h.symm.trans e)
  ·rw[h,hsz] at e;cases e;omega
 have h8:W.heap.size+1≤W8.heap.size:=by rw[←hsz];exact hg.size
 refine ⟨⟨⟨⟨su,(hb.same (hold mb hlm a1)).set 0 v3⟩,?_,?_⟩,?_,fun i hi hn=>?_,fun i hi=>?_,hm.ios.trans (hWi.trans ⟨hg.os,hg.tape,hg.output⟩)⟩,hold⟩
 ·have:=q0X hown (a:=⟨mb,0,none⟩) v3 h3
  rw[q7T,List.length_append,List.length_singleton]
  simpa [q5E] using this
 ·exact q0X (q0a hm.mo.rowM fun i hi=>hold i (q0V hm.mo.rowM i hi).2 fun e=>a3 i e hi) v3 a2
 ·rw[World.size_setCell];have:=hm.size;omega
 ·rw[heap_setCell_other W8 ⟨mb,0,none⟩ i v3 (fun e=>hn (.inl e)),hold i (by have:=hm.size;omega) (fun e=>?_),hm.off i hi hn]
  rcases hm.grew i e with h|h
  ·exact hn (.inr (.inl h))
  ·omega
 ·rcases hat with h|h
  ·exact hm.grew i (h.symm.trans hi)
  ·rw[h,hsz] at hi;cases hi;have:=hm.size;exact .inr (by omega)
theorem MoMid.many {w W W8:World} {mb base:Nat} {vL vM v2 v3:Value} {T:List To} {ms:List Value} {c:Value} {lit:Obj} (hm:MoMid w mb base vL vM T ms v2 W) (hmw:mb<w.heap.size)
  (hown:W8.ownsRow base 3 1 v3 (ms.length+1) (ms++[c])) (hg:(W.alloc lit).grownBy W8 vM.ownBlock) (hat:v3.ownBlock=vM.ownBlock∨v3.ownBlock=some (W.alloc lit).heap.size):
  MoI (W8.setCell ⟨mb,1,none⟩ v3) mb base v2 v3 T (ms++[c])∧w.heap.size≤(W8.setCell ⟨mb,1,none⟩ v3).heap.size∧(∀i,i<w.heap.size→¬MoB mb vL vM i→(W8.setCell ⟨mb,1,none⟩ v3).heap[i]? =w.heap[i]?)∧
   (∀i,MoB mb v2 v3 i→MoB mb vL vM i∨w.heap.size≤i)∧(∀i,i<W.heap.size→vM.ownBlock≠some i→W8.heap[i]? =W.heap[i]?)∧Ios w (W8.setCell ⟨mb,1,none⟩ v3):=by
 obtain ⟨su,hb⟩:=hm.mo.blk;obtain ⟨a1,a2,a3⟩:=hm.mo.apart;have hsz:(W.alloc lit).heap.size=W.heap.size+1:=by rw[World.size_alloc]
 have hold: ∀i,i<W.heap.size→vM.ownBlock≠some i→W8.heap[i]? =W.heap[i]? :=fun i hi hn=>by
  rw[hg.block i (by omega) (fun e=>hn e.symm),(q0B W lit).block i hi]
 have hlm:mb<W.heap.size:=hb.lt;have h3:v3.ownBlock≠some mb:=fun e=>by
  rcases hat with h|h
  ·exact a2 (h.symm.trans e)
  ·rw[h,hsz] at e;cases e;omega
 have h8:W.heap.size+1≤W8.heap.size:=by rw[←hsz];exact hg.size
 refine ⟨⟨⟨su,(hb.same (hold mb hlm a2)).set 1 v3⟩,?_,?_⟩,?_,fun i hi hn=>?_,fun i hi=>?_,hold,hm.ios.trans ⟨hg.os,hg.tape,hg.output⟩⟩
 ·exact q0X (q0a hm.mo.rowL fun i hi=>hold i (q0V hm.mo.rowL i hi).2 (a3 i hi)) v3 a1
 ·have:=q0X hown (a:=⟨mb,1,none⟩) v3 h3
  rwa [List.length_append,List.length_singleton]
 ·rw[World.size_setCell];have:=hm.size;omega
 ·rw[heap_setCell_other W8 ⟨mb,1,none⟩ i v3 (fun e=>hn (.inl e)),hold i (by have:=hm.size;omega) (fun e=>hn (.inr (.inr e))),hm.off i hi hn]
 ·rcases hi with hi|hi|hi
  ·exact .inl (.inl hi)
  ·rcases hm.grew i hi with h|h
   ·exact .inl (.inr (.inl h))
   ·exact .inr h
  ·rcases hat with h|h
   ·exact .inl (.inr (.inr (h.symm.trans hi)))
   ·rw[h,hsz] at hi;cases hi;have:=hm.size;exact .inr (by omega)
theorem q8Y {w:World} {mb base:Nat} {vL vM:Value} {bs:List Bt} {ms:List Value} (h:MoI w mb base vL vM (tos bs) ms) (hok:okBs bs) (hbm:base≤mb) (str:List UInt8) (hs:str.length≤4611686018427387903) (ex:Int) {ao:Option Addr} {k cap:Nat} {L:List Ev} (hx:Evs w ao k cap L) (hd: ∀a,ao=some a→0<k→¬MoB mb vL vM a.block)
  (hL:q1C L) (hwe: ∀e∈L,e.we<18446744073709551616) (hl:(tos bs).length≤100000) (hms:ms.length≤100000) {z:Int} (hz:q8A bs str ex L=z):
  Calls Tryz.prog 13 #[.pointer (some ⟨mb,0,none⟩),.string ⟨str.toArray⟩,.int .i64 ex,.slice ao k cap] w (MoAppR w mb base vL vM bs ms.length str L z):=by
 have HM:=η45 h;have HC:=η45 (q7h str 0 w hx hs hL);have HSt:=η45 (fun W (kk:Ext w W)=>q6n (h.ext kk) str hl);have hN:((tos bs).filter fun t=>decide (t.s=str)).length=(q0T bs str).length:=by rw[q3l hok,q4x]
 have hle:=List.length_filter_le (fun t:To=>decide (t.s=str)) (tos bs);generalize ((tos bs).filter fun t=>decide (t.s=str))=R at*;obtain ⟨n,hn⟩: ∃n,R.length=n:=⟨_,rfl⟩
 rw[hn] at hN hle HSt;obtain ⟨c,hc⟩: ∃c,q0N str 0 L=c:=⟨_,rfl⟩
 rw[hc] at HC;have HZ:Hid ((if c≠0 then c else if ex< -2 then 2 else if ex≠ -2∧ex≠(n:Int)-1 then 80 else 0)=z):=η45 (by rw[←hz];unfold q8A;rw[hc,←hN]);have HCk:=η45 hc;have HNn:=η45 hN;have hlen:=hx.len;have hf1:=hx.fits;have hf2:=hx.bound;have HX:=η45 hx;have HD:=η45 hd;have HWe:=η45 hwe;have q1:IntKind.i64.wrap ((n:Int)-1)=(n:Int)-1:=by rw[IntKind.wrap_i64];omega
 have q2:IntKind.i64.wrap ((n:Int)-1+1)=(n:Int):=by rw[IntKind.wrap_i64];omega
 clear h hx hd hz hc hN hok hn hL hwe;go_enter Tryz.func13,Tryz.ntmps13;go_wp2_with fail;refine HC.out.mono ?_;rintro e w1 ⟨rfl,hx⟩;have HX1:=η45 hx;clear hx HC;by_cases hc0:c=0
 case neg=>
  have hcn:(c !=(0:Int))=true:=by simpa using hc0
  have HZc:Hid (z=c):=η45 (by rw[←HZ.out,if_pos hc0]);have HC0:=η45 hc0;clear hc0;go_wp2_with fail;go_ret2;rw[HZc.out];exact MoAppR.no HM.out HC0.out HX1.out
 have hcn:(c !=(0:Int))=false:=by rw[hc0];rfl
 by_cases hex:ex< -2
 ·have hd1:decide (ex<(-2:Int))=true:=decide_eq_true hex
  have HZc:Hid (z=2):=η45 (by rw[←HZ.out,if_neg (by omega),if_pos hex]);clear hc0 hex;go_wp2_with fail;go_ret2;rw[HZc.out];exact MoAppR.no HM.out (by decide) HX1.out
 have hd1:decide (ex<(-2:Int))=false:=decide_eq_false hex;have HC0:=η45 hc0;clear hc0;go_wp2_with fail;refine (HSt.out _ HX1.out).mono ?_;rintro e w2 ⟨v,rfl,hrow,hx⟩;obtain ⟨va,vc,rfl⟩:=q0G hrow;have HX2:=η45 (HX1.out.trans hx);clear hx hrow HSt;by_cases hv:ex≠ -2∧ex≠(n:Int)-1
 ·have hd2:(ex !=(-2:Int))=true:=by simpa using hv.1
  have hd3:(ex !=(n:Int)-1)=true:=by simpa using hv.2
  have HZc:Hid (z=80):=η45 (by rw[←HZ.out,if_neg (by have:=HC0.out;omega),if_neg (by omega),if_pos hv]);clear hex hv;go_wp2_with fail;go_ret2;rw[HZc.out];exact MoAppR.no HM.out (by decide) HX2.out
 have hv2:(ex !=(-2:Int))=false∨((ex !=(-2:Int))=true∧(ex !=(n:Int)-1)=false):=by
  by_cases h:ex= -2
  ·exact .inl (by rw[h];rfl)
  ·exact .inr ⟨by simpa using h,by have:ex=(n:Int)-1:=Decidable.not_not.1 fun hh=>hv ⟨h,hh⟩;rw[this];simp⟩
 have HZc:Hid (z=0):=η45 (by rw[←HZ.out,if_neg (by have:=HC0.out;omega),if_neg (by omega),if_neg hv]);have hb0:q0N str 0 L=0:=by rw[HCk.out,HC0.out]
 have hn6:n≤1000000:=by omega
 have hokb:z1a ⟨str,n,L⟩:=⟨q4R (n:=n) hb0 hn6,fun e he=>HWe.out e he⟩
 have HPu:=η45 (z6T (b:=⟨str,n,L⟩) w2 (HX.out.ext HX2.out) hokb);have hp:=q0j hb0;have hk8:k≤8:=by have:=hp.2.2.2.1;omega
 simp only at HPu;clear hb0 hokb hv hex hp;rcases hv2 with hd2|⟨hd2,hd3⟩
 all_goals
  go_wp2_with fail;refine HPu.out.mono ?_;rintro e w3 ⟨S,rfl,hx⟩;have HX3:=η45 (HX2.out.trans hx);clear hx;go_wp2_with fail
  go_loopw [12] (fun iv W=> ∃(j:Nat) (v2:Value),iv= .int .i64 (j:Int)∧j≤k∧MoMid w mb base vL vM (tos bs++q4A str n (L.take j)) ms v2 W) (fun i _=>k-(intOf i).toNat)
  case atStart=>exact ⟨0,vL,rfl,Nat.zero_le _,MoMid.start HM.out HX3.out (by simp[q4A])⟩
  case round=>
   obtain ⟨j,v2,rfl,hj,hm⟩:=hrel;by_cases hlt:j<k
   ·have hdj:decide ((j:Int)<(k:Int))=true:=decide_eq_true (by omega)
    have hji:(j:Int)<(k:Int):=by omega
    have q3:IntKind.i64.wrap ((n:Int)+(j:Int))=(n:Int)+(j:Int):=by rw[IntKind.wrap_i64];omega
    have q5:IntKind.i64.wrap (n:Int)=(n:Int):=by rw[IntKind.wrap_i64];omega
    have q4:IntKind.i64.wrap ((j:Int)+1)=(j:Int)+1:=by rw[IntKind.wrap_i64];omega
    have hLt: ∀a,ao=some a→a.block<w.heap.size:=fun a e=>by
     obtain ⟨b,off,e2,c0,_⟩:=HX.out.at (i:=0) (by omega);rw[e] at e2;cases e2;exact World.block_lt_of_cell? _ _ c0
    have hev:Evs wr ao k cap L:=HX.out.keep fun a e=>hm.off _ (hLt a e) (HD.out a e (by omega))
    have hT2:tos bs++q4A str n (L.take (j+1))=(tos bs++q4A str n (L.take j))++[⟨str,((n+j:Nat):Int),L.getD j ev0⟩]:=by
     rw[List.take_succ_eq_append_getElem (by omega),q3r,List.length_take,Nat.min_eq_left (by omega),List.append_assoc,List.getD_eq_getElem?_getD,List.getElem?_eq_getElem (by omega)];rfl
    obtain ⟨eb,off,rfl,e0,e1,e2⟩:=hev.at hlt;have hDe:=HD.out _ rfl (by omega);have hLe:=hLt _ rfl;generalize L.getD j ev0=y at*;obtain ⟨y1,y2,y3⟩:=y;simp only at e0 e1 e2 hDe hLe;rw[show ((n+j:Nat):Int)=(n:Int)+(j:Int) by omega] at hT2;have HT2:=η45 hT2;have hTl:(tos bs++q4A str n (L.take j)).length≤100010:=by rw[List.length_append,q1u,List.length_take];omega
    generalize tos bs++q4A str n (L.take j)=T at*;obtain ⟨la,lc,rfl⟩:=q0G hm.mo.rowL;obtain ⟨N,hN⟩: ∃N,T.length=N:=⟨_,rfl⟩
    obtain ⟨su,hb⟩:=hm.mo.blk;have hap:=hm.mo.apart;have hrow:=hm.mo.rowL;have HMm:=η45 hm;rw[hN] at hb hrow hap HMm hTl;have HN:=η45 hN;have k0:=hb.cell 0;have f0:=hb.free 0;have HMw:Hid (mb<w.heap.size):=η45 (by obtain ⟨_,h⟩:=HM.out.blk;exact h.lt);have HBs:Hid (base≤wr.heap.size):=η45 (by have:=hb.lt;omega);have HBl:=η45 hb.lt;have HRw:Hid (∀W',Ext wr W'→W'.ownsRow base 87 5 (.slice la N lc) N (q5E T)):=η45 fun W' kk=>q0J hrow kk
    have HSw:Hid (∀W',(∀i,(i=mb∨i=eb)→W'.heap[i]? =wr.heap[i]?)→(fun W:World=>W.cell? ⟨mb,0,none⟩=some (.slice la N lc)∧W.cell? ⟨eb,off+j*3,none⟩=some (.string ⟨y1.toArray⟩)∧W.cell? ⟨eb,off+j*3+1,none⟩=some (.string ⟨y2.toArray⟩)∧W.cell? ⟨eb,off+j*3+2,none⟩=some (.float .f64 y3)) W'):=η45 fun W' kk=>
     ⟨(World.cell?_of_block (a:=⟨mb,0,none⟩) (kk mb (.inl rfl))).trans k0,(World.cell?_of_block (a:=⟨eb,off+j*3,none⟩) (kk eb (.inr rfl))).trans e0,(World.cell?_of_block (a:=⟨eb,off+j*3+1,none⟩) (kk eb (.inr rfl))).trans e1,(World.cell?_of_block (a:=⟨eb,off+j*3+2,none⟩) (kk eb (.inr rfl))).trans e2⟩
    have HEb:Hid (eb<wr.heap.size∧(Value.slice la N lc).ownBlock≠some eb):=η45 ⟨World.block_lt_of_cell? _ _ e0,fun e=>by
     rcases HMm.out.grew eb e with h|h
     ·exact hDe (.inr (.inl h))
     ·omega⟩
    have HAp:=η45 hap.1;have hsf:=q1T;clear hm hb hrow hap hev hLt hT2 hDe hLe hN;go_wp2_with fail;have HRl:=η45 (show Rd (wr.alloc (.cells #[.string ⟨str.toArray⟩,.int .i64 ((n:Int)+(j:Int)),.string ⟨y1.toArray⟩,.string ⟨y2.toArray⟩,.float .f64 y3] 87)).drew (some ⟨wr.heap.size,0,none⟩) (toc ⟨str,(n:Int)+(j:Int),⟨y1,y2,y3⟩⟩) from (Rd.lit wr #[.string ⟨str.toArray⟩,.int .i64 ((n:Int)+(j:Int)),.string ⟨y1.toArray⟩,.string ⟨y2.toArray⟩,.float .f64 y3] 87).ext (Ext.refl _).drew);refine q2S (fun W:World=>W.cell? ⟨mb,0,none⟩=some (.slice la N lc)∧W.cell? ⟨eb,off+j*3,none⟩=some (.string ⟨y1.toArray⟩)∧W.cell? ⟨eb,off+j*3+1,none⟩=some (.string ⟨y2.toArray⟩)∧W.cell? ⟨eb,off+j*3+2,none⟩=some (.float .f64 y3)) 17 (by kernel_rfl) (HSw.out _ fun i _=>rfl) (fun hHeld=>?_);refine q0C (i:=0) (v:=?_) rfl (by kernel_rfl) (fun _ _ _ h=>h) (Or.inl ⟨by rfl,?_⟩) hHeld (fun hHeld=>?_)
    rotate_left
    ·(intro w hSw;(try dsimp only at hSw);go_simp;try with_reducible rfl)
    simp only[Act.put,List.setIfInBounds_toArray,List.set_cons_zero,List.set_cons_succ];refine q0C (i:=1) (v:=?_) rfl (by kernel_rfl) (fun _ _ _ h=>h) (Or.inl ⟨by rfl,?_⟩) hHeld (fun hHeld=>?_)
    rotate_left
    ·(intro w hSw;(try dsimp only at hSw);go_simp;try with_reducible rfl)
    simp only[Act.put,List.setIfInBounds_toArray,List.set_cons_zero,List.set_cons_succ];refine q0C (i:=2) (v:=?_) rfl (by kernel_rfl) (fun _ _ _ h=>h) (Or.inl ⟨by rfl,?_⟩) hHeld (fun hHeld=>?_)
    rotate_left
    ·(intro w hSw;(try dsimp only at hSw);go_simp;try with_reducible rfl)
    simp only[Act.put,List.setIfInBounds_toArray,List.set_cons_zero,List.set_cons_succ];refine q0C (i:=3) (v:=?_) rfl (by kernel_rfl) (fun _ _ _ h=>h) (Or.inl ⟨by rfl,?_⟩) hHeld (fun hHeld=>?_)
    rotate_left
    ·(intro w hSw;(try dsimp only at hSw);go_simp;try with_reducible rfl)
    simp only[Act.put,List.setIfInBounds_toArray,List.set_cons_zero,List.set_cons_succ];refine q0z (i:=4) (v:=?_) rfl (by kernel_rfl) (fun _ _ _ h=>h) (Or.inl ⟨by rfl,?_⟩) hHeld (fun hHeld=>?_)
    rotate_left
    ·(intro w hSw;(try dsimp only at hSw);go_simp;try with_reducible rfl)
    simp only[Act.put,List.setIfInBounds_toArray,List.set_cons_zero,List.set_cons_succ];refine q0C (i:=5) (v:=?_) rfl (by kernel_rfl) (fun _ _ _ h=>h) (Or.inl ⟨by rfl,?_⟩) hHeld (fun hHeld=>?_)
    rotate_left
    ·(intro w hSw;(try dsimp only at hSw);go_simp;try with_reducible rfl)
    simp only[Act.put,List.setIfInBounds_toArray,List.set_cons_zero,List.set_cons_succ];refine q0C (i:=6) (v:=?_) rfl (by kernel_rfl) (fun _ _ _ h=>h) (Or.inl ⟨by rfl,?_⟩) hHeld (fun hHeld=>?_)
    rotate_left
    ·(intro w hSw;(try dsimp only at hSw);go_simp;try with_reducible rfl)
    simp only[Act.put,List.setIfInBounds_toArray,List.set_cons_zero,List.set_cons_succ];refine q0C (i:=7) (v:=?_) rfl (by kernel_rfl) (fun _ _ _ h=>h) (Or.inl ⟨by rfl,?_⟩) hHeld (fun hHeld=>?_)
    rotate_left
    ·(intro w hSw;(try dsimp only at hSw);go_simp;try with_reducible rfl)
    simp only[Act.put,List.setIfInBounds_toArray,List.set_cons_zero,List.set_cons_succ];refine q0C (i:=8) (v:=?_) rfl (by kernel_rfl) (fun _ _ _ h=>h) (Or.inl ⟨by rfl,?_⟩) hHeld (fun hHeld=>?_)
    rotate_left
    ·(intro w hSw;(try dsimp only at hSw);go_simp;try with_reducible rfl)
    simp only[Act.put,List.setIfInBounds_toArray,List.set_cons_zero,List.set_cons_succ];refine q0C (i:=9) (v:=?_) rfl (by kernel_rfl) (fun _ _ _ h=>h) (Or.inl ⟨by rfl,?_⟩) hHeld (fun hHeld=>?_)
    rotate_left
    ·(intro w hSw;(try dsimp only at hSw);go_simp;try with_reducible rfl)
    simp only[Act.put,List.setIfInBounds_toArray,List.set_cons_zero,List.set_cons_succ];refine q0C (i:=10) (v:=?_) rfl (by kernel_rfl) (fun _ _ _ h=>h) (Or.inl ⟨by rfl,?_⟩) hHeld (fun hHeld=>?_)
    rotate_left
    ·(intro w hSw;(try dsimp only at hSw);go_simp;try with_reducible rfl)
    simp only[Act.put,List.setIfInBounds_toArray,List.set_cons_zero,List.set_cons_succ];refine q0C (i:=11) (v:=?_) rfl (by kernel_rfl) (fun _ _ _ h=>h) (Or.inl ⟨by rfl,?_⟩) hHeld (fun hHeld=>?_)
    rotate_left
    ·(intro w hSw;(try dsimp only at hSw);go_simp;try with_reducible rfl)
    simp only[Act.put,List.setIfInBounds_toArray,List.set_cons_zero,List.set_cons_succ];refine q0C (i:=12) (v:=?_) rfl (by kernel_rfl) (fun _ _ _ h=>h) (Or.inl ⟨by rfl,?_⟩) hHeld (fun hHeld=>?_)
    rotate_left
    ·(intro w hSw;(try dsimp only at hSw);go_simp;try with_reducible rfl)
    simp only[Act.put,List.setIfInBounds_toArray,List.set_cons_zero,List.set_cons_succ];refine q0z (i:=13) (v:=?_) rfl (by kernel_rfl) (fun _ _ _ h=>h) (Or.inl ⟨by rfl,?_⟩) hHeld (fun hHeld=>?_)
    rotate_left
    ·(intro w hSw;(try dsimp only at hSw);go_simp;try with_reducible rfl)
    simp only[Act.put,List.setIfInBounds_toArray,List.set_cons_zero,List.set_cons_succ];refine q0C (i:=14) (v:=?_) rfl (by kernel_rfl) (fun _ _ _ h=>h) (Or.inl ⟨by rfl,?_⟩) hHeld (fun hHeld=>?_)
    rotate_left
    ·(intro w hSw;(try dsimp only at hSw);go_simp;try with_reducible rfl)
    simp only[Act.put,List.setIfInBounds_toArray,List.set_cons_zero,List.set_cons_succ];refine q1G (i:=15) (by kernel_rfl) rfl (fun K hK=>?_)
    go_simp
    have HX1a:Hid (Ext wr (wr.alloc (.cells #[.string ⟨str.toArray⟩,.int .i64 ((n:Int)+(j:Int)),.string ⟨y1.toArray⟩,.string ⟨y2.toArray⟩,.float .f64 y3] 87)).drew):=η45 ((q0B wr _).drew);refine hK.out _ _ (HSw.out _ fun i hi=>HX1a.out.block i (by rcases hi with hi|hi;rw[hi];exact HBl.out;rw[hi];exact HEb.out.1)) (fun hHeld=>?_);clear hK K
    try simp only[Act.put,List.setIfInBounds_toArray,List.set_cons_zero,List.set_cons_succ]
    refine q1G (i:=16) (by kernel_rfl) rfl (fun K hK=>?_);refine q1Q rfl (.tmp 56) (.tmp 67) 35 rfl base 87 _ 5 64 Tryz.underlying35 Tryz.infoTo (by decide) (by decide) (.slice la N lc) N (q5E T) rfl (HRw.out _ HX1a.out) _ 1 1 (toc ⟨str,(n:Int)+(j:Int),⟨y1,y2,y3⟩⟩) rfl rfl (fun h=>by cases h) HRl.out (by unfold toc;simp[Value.oneCell']) (by unfold maxLen;omega) (by omega) (by have:=HBs.out;simp;omega) ?_;intro v3 x2 hown hgrow hat;obtain ⟨a3,k3,rfl⟩:=q0G hown;obtain ⟨t1,t2⟩:=HMm.out.told (t:=⟨str,(n:Int)+(j:Int),⟨y1,y2,y3⟩⟩) (Wd:=wr.drew) (lit:=(.cells #[.string ⟨str.toArray⟩,.int .i64 ((n:Int)+(j:Int)),.string ⟨y1.toArray⟩,.string ⟨y2.toArray⟩,.float .f64 y3] 87)) HMw.out rfl ⟨rfl,rfl,rfl⟩ (by rw[HN.out];exact hown) hgrow hat;have HF:=η45 t1;have h8m:=t2 mb HBl.out HAp.out;have h8e:=t2 eb HEb.out.1 HEb.out.2;have HSx:=η45 (HSw.out x2 fun i hi=>by rcases hi with hi|hi<;>rw[hi]<;>assumption)
    have f8:=(World.frozen?_of_block (a:=⟨mb,0,none⟩) h8m).trans f0;clear hown hgrow hat t1 t2 h8m h8e;refine hK.out _ _ HSx.out (fun hHeld=>?_);clear hK K
    try simp only[Act.put,List.setIfInBounds_toArray,List.set_cons_zero,List.set_cons_succ]
    refine q2s (by kernel_rfl) ?_
    try simp only[List.drop_succ_cons,List.drop_zero]
    clear hHeld;obtain ⟨d0,_,_,_⟩:=HSx.out;go_wp2_with fail
    go_roundw
    case rel=>
     refine ⟨j+1,.slice a3 (N+1) k3,by go_num,by omega,?_⟩;rw[HT2.out];exact HF.out
    case measure=>simp[intOf];omega
   ·obtain rfl:j=k:=by omega
    have hdk:decide ((j:Int)<(j:Int))=false:=decide_eq_false (by omega);have hTk:tos bs++q4A str n (L.take j)=tos (bs++[⟨str,n,L⟩]):=by
     rw[List.take_of_length_le (by omega),q2P,q5y];rfl
    rw[hTk] at hm;obtain ⟨ma,mc,rfl⟩:=q0G hm.mo.rowM;obtain ⟨su,hb⟩:=hm.mo.blk;have k1:=hb.cell 1;have f1:=hb.free 1;have HMm:=η45 hm;have HRm:=η45 hm.mo.rowM;have HMw:Hid (mb<w.heap.size):=η45 (by obtain ⟨_,h⟩:=HM.out.blk;exact h.lt);have HBs:Hid (base≤wr.heap.size):=η45 (by have:=hb.lt;omega);have HRl:=η45 (Rd.lit wr #[.int .i64 (j:Int)] 3);have HBl:=η45 hb.lt;clear hm hb hTk
    go_wp2_with (at_builtin;refine q0M rfl _ _ 36 rfl base 3 _ 1 8 Tryz.underlying36 Tryz.infoI (by decide) (by decide) _ ms.length ms rfl (q0J HRm.out (q0B _ _)) _ 1 1 [.int .i64 (j:Int)] rfl rfl (fun h=>by cases h) HRl.out (by simp[Value.oneCell']) (by unfold maxLen;omega) (by omega) (by have:=HBs.out;simp;omega) ?_;intro v3 w8 hown hgrow hat;obtain ⟨a3,k3,rfl⟩:=q0G hown;have HF:=η45 (HMm.out.many HMw.out hown hgrow hat);have h8:=HF.out.2.2.2.2.1 mb HBl.out HMm.out.mo.apart.2.1;have k1':=(World.cell?_of_block (a:=⟨mb,1,none⟩) h8).trans k1;have f1':=(World.frozen?_of_block (a:=⟨mb,1,none⟩) h8).trans f1;clear hown hgrow hat h8)
    go_ret2;obtain ⟨g1,g2,g3,g4,_,g6⟩:=HF.out;exact ⟨_,_,_,_,(n:Int),0,rfl,g1,by simp,g2,g3,g4,.inr ⟨HZc.out,by rw[HNn.out],rfl,by rw[HNn.out]⟩,g6⟩
end
section
open Go.RowKit
def RwI (W:World) (gw mb:Nat) (str:List UInt8) (a:Int):Prop:=Blk W gw 57 #[.pointer (some ⟨mb,0,none⟩),.string ⟨str.toArray⟩,.int .i64 a]
theorem z7m {w:World} {mb base:Nat} {vL vM:Value} {bs:List Bt} {ms:List Value} (h:MoI w mb base vL vM (tos bs) ms) (hok:okBs bs) (str:List UInt8) (hs:str.length≤4611686018427387903) (hl:(tos bs).length≤100000) (a:Int):
  Calls Tryz.prog 11 #[.pointer (some ⟨mb,0,none⟩),.string ⟨str.toArray⟩,.int .i64 a] w fun e w'=>Ext w w'∧
   ((q5f bs str a≠0∧e= .returned (.tuple #[.pointer none,.int .i64 (q5f bs str a)]))∨(q5f bs str a=0∧ ∃gw,e= .returned (.tuple #[.pointer (some ⟨gw,0,none⟩),.int .i64 0])∧RwI w' gw mb str a∧w.heap.size≤gw)):=by
 have HL:=η45 (z7u h hok str hs hl);have HZ:Hid (q5f bs str a=if (q3c bs str).2≠0 then (q3c bs str).2 else if a< -1 then 2 else if (q3c bs str).1<a then 80 else 0):=η45 rfl;clear h hok;generalize q5f bs str a=z at*;generalize q3c bs str=xy at*;obtain ⟨x,y⟩:=xy;simp only at HL HZ;go_enter Tryz.func11,Tryz.ntmps11;go_wp2_with fail;refine HL.out.mono ?_;rintro e w1 ⟨rfl,hx⟩;have HX:=η45 hx;clear hx HL;by_cases hy:y=0
 ·have hd0:(y !=(0:Int))=false:=by rw[hy];rfl
  by_cases ha:a< -1
  ·have hd1:decide (a<(-1:Int))=true:=decide_eq_true ha
   have HZ1:Hid (z=2):=η45 (by have:=HZ.out;rw[if_neg (by omega),if_pos ha] at this;exact this);clear ha;go_wp2_with fail;go_ret2;exact ⟨HX.out,.inl ⟨by rw[HZ1.out];decide,by rw[HZ1.out];rfl⟩⟩
  ·have hd1:decide (a<(-1:Int))=false:=decide_eq_false ha
   by_cases hxa:x<a
   ·have hd2:decide (x<a)=true:=decide_eq_true hxa
    have HZ1:Hid (z=80):=η45 (by have:=HZ.out;rw[if_neg (by omega),if_neg ha,if_pos hxa] at this;exact this);clear ha hxa;go_wp2_with fail;go_ret2;exact ⟨HX.out,.inl ⟨by rw[HZ1.out];decide,by rw[HZ1.out];rfl⟩⟩
   ·have hd2:decide (x<a)=false:=decide_eq_false hxa
    have HZ1:Hid (z=0):=η45 (by have:=HZ.out;rw[if_neg (by omega),if_neg ha,if_neg hxa] at this;exact this);clear ha hxa;go_wp2_with fail;go_ret2;exact ⟨HX.out.trans (q0B w1 _),.inr ⟨HZ1.out,_,rfl,Blk.new w1 _ _,HX.out.size⟩⟩
 ·have hd0:(y !=(0:Int))=true:=by simpa using hy
  have HZ1:Hid (z=y):=η45 (by have:=HZ.out;rw[if_pos hy] at this;exact this);go_wp2_with fail;go_ret2;exact ⟨HX.out,.inl ⟨by rw[HZ1.out];exact hy,by rw[HZ1.out];rfl⟩⟩
end
end Go.Proofs.YthdekbmdkpcooaaGreatDoor
