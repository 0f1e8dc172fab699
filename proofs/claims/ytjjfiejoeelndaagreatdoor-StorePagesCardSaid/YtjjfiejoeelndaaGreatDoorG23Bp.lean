/- Walks. -/
import Derived.Test.YtjjfiejoeelndaaGreatDoorG15Bp
import Derived.Test.YtjjfiejoeelndaaGreatDoorG20Bp
set_option linter.unusedVariables false
set_option linter.unusedSimpArgs false
set_option maxRecDepth 100000
set_option maxHeartbeats 6400000
namespace Go.Proofs.YtjjfiejoeelndaaGreatDoor
theorem η23 {p:Prop} (h:p):Go.RowKit.Hid p:=Lib.hid h
open Go.RowKit
def q9h (L:List En) (k:Nat):List UInt8:=z1U++(be 4 L.length++((L.take k).map q4c).flatten)
theorem q8s (L:List En) (k:Nat) (hk:k≤L.length):(q9h L k).length=8+24*k:=by
 unfold q9h z1U;rw[List.length_append,List.length_append,q0I,q3p,List.length_take];simp;omega
theorem z8L (L:List En) (k:Nat) (hk:k<L.length):q9h L (k+1)=q9h L k++q4c (L.getD k en0):=by
 unfold q9h;have e:L.take (k+1)=L.take k++[L.getD k en0]:=by
  rw[List.take_add_one,List.getElem?_eq_getElem hk];simp[List.getD,List.getElem?_eq_getElem hk]
 rw[e];simp
theorem z9G (L:List En):q9h L L.length=q9Y L:=by unfold q9h q9Y;rw[List.take_length]
theorem RowN.weak {w:World} {B base:Nat} {e:TypeId} {v:Value} {n:Nat} {xs:List Value} (h:RowN w base e v n xs) (k:B≤base):RowN w B e v n xs:=by
 obtain ⟨h0,g,cap,cur,fz,h1,h2,h3⟩:=h;exact ⟨h0,g,cap,cur,fz,h1,Nat.le_trans k h2,h3⟩
def z3A (L:List En):Value:=if q2V L then .tuple #[.string ⟨(q2Q L).toArray⟩,.int .i64 0] else .tuple #[.string ⟨#[]⟩,.int .i64 2]
theorem y3h {ao:Option Addr} {n cap:Nat} {L:List En} (w:World) (hx:Ens w ao n cap L) (hn:n≤1000) (hok: ∀e∈L,q3B e=true):Calls Tryz.prog 200 #[.slice ao n cap] w fun r w'=>r= .returned (z3A L)∧Ext w w':=by
 have Hx:=η23 hx;have b1:=hx.fits;have b2:=hx.bound;have hlen:=hx.len;have HLen:=η23 hlen;have HS:=η23 (fun W (k:Ext w W)=>z5F W (hx.ext k));have HOk:=η23 hok;clear hx hok
 cases hq:q2V L with
 | false=>
  have HV:Hid (z3A L= .tuple #[.string ⟨#[]⟩,.int .i64 2]):=η23 (by unfold z3A;rw[if_neg (by rw[hq];decide)]);rw[hq] at HS;clear hq hlen;go_enter Tryz.func200,Tryz.ntmps200;go_wp2_with fail;refine (HS.out _ (Ext.refl _)).mono ?_;rintro e w1 ⟨rfl,hb⟩;have HB:=η23 hb;clear hb;go_wp2_with fail;go_ret2;rw[HV.out];exact ⟨rfl,HB.out⟩
 | true =>
  have HV:Hid (z3A L= .tuple #[.string ⟨(q2Q L).toArray⟩,.int .i64 0]):=η23 (by unfold z3A;rw[if_pos hq]);rw[hq] at HS;have hw1:IntKind.u64.wrap (n:Int)=(n:Int):=by rw[IntKind.wrap_u64];omega
  have HP:=η23 (fun W=>q7e (n:Int) 4 W (by omega) (by omega) (by omega) (by omega));have hnn:((n:Int)).toNat=n:=by omega
  rw[hnn] at HP;have HB4:=η23 (q0I 4 n);have q1:¬(9223372036854775807<([112,116,97,98]:List UInt8).length+(be 4 n).length):=by rw[HB4.out];decide
  have HK0:Hid (([112,116,97,98]:List UInt8)++be 4 n=q9h L 0):=η23 (by unfold q9h z1U;rw[HLen.out];simp);have HConv:Hid (∀W:World,(convert 9 128 (Value.string ((⟨#[112,116,97,98]⟩:ByteArray)++⟨(be 4 n).toArray⟩))).run Tryz.prog W= .ok (.slice (some ⟨W.heap.size,0,none⟩) (q9h L 0).length (grownCap W (q9h L 0).length 0 5)) (Lib.bytesWorld W 5 ⟨(q9h L 0).toArray⟩)):=η23 (fun W=>by
   have h:=Lib.run_convert_string_bytes (P:=Tryz.prog) W 9 128 5 ⟨(q9h L 0).toArray⟩ Tryz.underlying9 Tryz.underlying128 Tryz.underlying5;have e:((⟨#[112,116,97,98]⟩:ByteArray)++⟨(be 4 n).toArray⟩)=⟨(q9h L 0).toArray⟩:=by
    rw[←HK0.out];exact q3k [112,116,97,98] (be 4 n)
   rw[e];exact h)
  have HR0:=η23 (fun W=>RowN.of_string W 5 (q9h L 0) (by rw[q8s _ _ (Nat.zero_le _)];omega));have HL0:=η23 (q8s L 0 (Nat.zero_le _));clear hq hlen;go_enter Tryz.func200,Tryz.ntmps200;go_wp2_with fail;refine (HS.out _ (Ext.refl _)).mono ?_;rintro e w1 ⟨rfl,hb⟩;have HB:=η23 hb;clear hb;go_wp2_with fail;refine (HP.out _).mono ?_;rintro e w2 ⟨rfl,hb⟩;have HB2:=η23 (HB.out.trans hb);clear hb;go_wp2_with fail;rw[HConv.out];have HR:=η23 ((HR0.out w2).weak HB2.out.size);have HB3:=η23 (HB2.out.trans (q9a w2 5 ⟨(q9h L 0).toArray⟩));generalize Lib.bytesWorld w2 5 ⟨(q9h L 0).toArray⟩=w3 at*;generalize grownCap w2 (q9h L 0).length 0 5=cap0 at*;clear HConv HR0;rw[HL0.out] at*;go_wp2_with fail
  go_loopw [4,19] (fun v i W=> ∃k:Nat,k≤n∧i= .int .i64 (k:Int)∧RowN W w.heap.size 5 v (8+24*k) (Lib.strCells ⟨(q9h L k).toArray⟩)∧Ext w W) (fun _ i _=>n-(intOf i).toNat)
  case atStart=>exact ⟨0,Nat.zero_le _,rfl,by have:=HR.out;exact this,HB3.out⟩
  case round=>
   obtain ⟨k,hk,rfl,hrow,hb⟩:=hrel;have HRow:=η23 hrow;have HBk:=η23 hb;by_cases hlt:k<n
   ·have hd:decide ((k:Int)<(n:Int))=true:=by simp;omega
    obtain ⟨b,off,rfl,c0,c1,c2⟩:=(Hx.out.ext hb).at hlt;have HStep:=η23 (z8L L k (by rw[HLen.out];exact hlt));have hke:=HOk.out (L.getD k en0) (by rw[List.getD,List.getElem?_eq_getElem (by rw[HLen.out];exact hlt)];simp);have HPe:=η23 (fun W=>z4i (L.getD k en0) W hke);have HEl:=η23 (q2k (L.getD k en0));clear hke;generalize L.getD k en0=z at*;obtain ⟨z1,z2,z3⟩:=z;unfold enV ec at HPe;generalize q4c (z1,z2,z3)=E at*;have u0:=q0E c0;have u1:=q0E c1;have u2:=q0E c2;have hEl:=HEl.out;clear hrow hb;obtain ⟨ga,ca,rfl⟩: ∃ga ca,u4= .slice (some ⟨ga,0,none⟩) (8+24*k) ca:=by
     obtain ⟨_,g,cap,_,_,h,_⟩:=HRow.out;exact ⟨g,cap,h⟩
    go_wp2_with fail;refine (HPe.out _).mono ?_;rintro e w4 ⟨rfl,hb⟩;have HX4:=η23 ((q0D _ _).trans hb);have HB4':=η23 (HBk.out.trans HX4.out);have HR4:=η23 (HRow.out.kept HX4.out);clear hb;have hEs:(⟨E.toArray⟩:ByteArray).size=24:=hEl
    go_wp2_with (at_builtin;refine q6M _ rfl (.tmp 28) (.tmp 29) 128 9 rfl w.heap.size 5 Tryz.underlying128 Tryz.underlying9 Tryz.infoU8 _ (8+24*k) _ rfl HR4.out ⟨E.toArray⟩ rfl (by rw[hEs];unfold maxLen;omega) (by rw[hEs];omega) HB4'.out.size ?_;intro v5 w5 hown hgrow;obtain ⟨g5,c5,rfl⟩: ∃ga ca,v5= .slice (some ⟨ga,0,none⟩) (8+24*k+(⟨E.toArray⟩:ByteArray).size) ca:=(by obtain ⟨_,g,cap,_,_,h,_⟩:=hown;exact ⟨g,cap,h⟩);have HO5:=η23 hown;have HB5:=η23 ((HB4'.out:Below w.heap.size w _).grown hgrow HB4'.out.size (fun q hq=>by obtain ⟨_,g,_,_,_,e1,e2,_⟩:=HR4.out;cases e1;cases hq;exact e2));clear hown hgrow)
    have e24:8+24*k+24=8+24*(k+1):=by omega
    go_roundw
    case rel=>exact ⟨k+1,hlt,by go_num,by have:=HO5.out;rw[hEs,e24,z2W,←HStep.out] at this;exact this,HB5.out⟩
    case measure=>simp[intOf];omega
   ·have hd:decide ((k:Int)<(n:Int))=false:=by simp;omega
    have hkn:k=n:=by omega
    subst hkn;have hlC:=q5l L;rw[HLen.out] at hlC;have HK:Hid (q9h L k=q9Y L):=η23 (by rw[←HLen.out];exact z9G L);have HConv:Hid ((convert 128 9 u4).run Tryz.prog wr= .ok (.string ⟨(q9Y L).toArray⟩) wr):=η23 (y4L (P:=Tryz.prog) wr 128 9 5 w.heap.size u4 (q9Y L) Tryz.underlying128 Tryz.underlying5 Tryz.underlying9 (by rw[hlC,←HK.out];exact HRow.out));have HSe:=η23 (fun W=>q9t (q9Y L) W (by omega));have HTb:Hid (q1O (q9Y L)=q2Q L):=η23 rfl;rw[HTb.out] at HSe;generalize q9Y L=TC at*;clear hrow hb;go_wp2_with fail;rw[HConv.out];go_wp2_with fail;refine (HSe.out _).mono ?_;rintro e w5 ⟨rfl,hb⟩;have HB5:=η23 (HBk.out.trans hb);clear hb;go_wp2_with fail;go_ret2;rw[HV.out];exact ⟨rfl,HB5.out⟩
end Go.Proofs.YtjjfiejoeelndaaGreatDoor
