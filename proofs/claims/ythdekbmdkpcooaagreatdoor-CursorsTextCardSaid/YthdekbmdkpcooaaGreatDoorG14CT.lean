/- Walks. -/
import Derived.Test.YthdekbmdkpcooaaGreatDoorG9CT
import Derived.Test.YthdekbmdkpcooaaGreatDoorG13CT
set_option linter.unusedVariables false
set_option linter.unusedSimpArgs false
set_option maxRecDepth 100000
set_option maxHeartbeats 6400000
namespace Go.Proofs.YthdekbmdkpcooaaGreatDoor
theorem η14 {p:Prop} (h:p):Go.RowKit.Hid p:=Lib.hid h
section
open Go.RowKit
def z2x (o:Option Cur):Cur×Int:=match o with|some c=>(c,0)|none=>(q6R,10)
theorem z6R {s:List UInt8} (h:58∉s):q3W s=none:=by unfold q3W;rw[if_pos h]
theorem z4Y {s:List UInt8} (h:58∈s) (h2:s.takeWhile (· !=58)=[]):q3W s=none:=by unfold q3W;rw[if_neg (by simpa using h),h2]
theorem z4V {s:List UInt8} {a:UInt8} {ds:List UInt8} (h:58∈s) (h2:s.takeWhile (· !=58)=a::ds) (h3:a≠102∧a≠98):q3W s=none:=by unfold q3W;rw[if_neg (by simpa using h),h2];simp only;rw[if_pos h3]
theorem z5V {s:List UInt8} {a:UInt8} {ds:List UInt8} (h:58∈s) (h2:s.takeWhile (· !=58)=a::ds) (h3:¬(a≠102∧a≠98)) (h4:z2A ds=none):q3W s=none:=by unfold q3W;rw[if_neg (by simpa using h),h2];simp only;rw[if_neg h3,h4]
theorem z5b {s:List UInt8} {a:UInt8} {ds:List UInt8} {n:Nat} (h:58∈s) (h2:s.takeWhile (· !=58)=a::ds) (h3:¬(a≠102∧a≠98)) (h4:z2A ds=some n):
  q3W s=if q3F ⟨(s.dropWhile (· !=58)).tail,(n:Int)-1,a==98⟩=true then some ⟨(s.dropWhile (· !=58)).tail,(n:Int)-1,a==98⟩ else none:=by
 unfold q3W;rw[if_neg (by simpa using h),h2];simp only;rw[if_neg h3,h4,List.drop_one]
theorem z9l {l:List UInt8} {n:Nat} (h:z2A l=some n):n<10000000000:=by
 obtain ⟨_,h2,h3,h4,_⟩:=q9W h;have h5:=z0D l h3;have h6:10^l.length≤10^10:=Nat.pow_le_pow_right (by decide) h2;have h7:(10:Nat)^10=10000000000:=by decide
 omega
theorem z2f (s :List UInt8) (hs:s.length≤1000000) (w:World):Calls Tryz.prog 22 #[.string ⟨s.toArray⟩] w fun e w'=>e= .returned (.tuple #[z2e (z2x (q3W s)).1,.int .i64 (z2x (q3W s)).2])∧Ext w w':=by
 have HC:=η14 (fun W=>z8l s (by omega) W);have HX0:=η14 (q0B w (.cells #[.string ⟨#[]⟩,.int .i64 0,.bool false] 63));have HB0:=η14 (Blk.new w 63 #[.string ⟨#[]⟩,.int .i64 0,.bool false]);obtain ⟨R,hR⟩: ∃R,z2x (q3W s)=R:=⟨_,rfl⟩
 have HR:=η14 hR;rw[hR];have hl:=congrArg List.length (List.takeWhile_append_dropWhile (p:=(· !=58)) (l:=s));rw[List.length_append] at hl;have hlB:(s.dropWhile (· !=58)).tail.length≤s.length:=by rw[List.length_tail];omega
 have hlA:(s.takeWhile (· !=58)).length≤s.length:=by omega
 clear hl;clear hR;go_enter Tryz.func22,Tryz.ntmps22;go_wp2_with fail;refine (HC.out _).mono ?_;rintro e w1 ⟨hx,⟨hm,rfl⟩|⟨hm,rfl⟩⟩
 ·have HX:=η14 (HX0.out.trans hx)
  have hb:=HB0.out.ext hx;have k0:=hb.cell 0;have k1:=hb.cell 1;have k2:=hb.cell 2;have f0:=hb.free 0;have f1:=hb.free 1;have f2:=hb.free 2;have HE:Hid (R=(q6R,10)):=η14 (by rw[←HR.out,z6R hm];rfl);clear hx hm hb HC HB0;go_wp2_with fail
  ((try simp only[Exit.inBlock,Exit.then]);refine bodyPost_ret (v:= .tuple #[.agg #[.string ⟨#[]⟩,.int .i64 0,.bool false],.int .i64 10]) (by rw[q0D rfl];go_simp) rfl ?_)
  exact ⟨by rw[HE.out],((HX.out.setCell (p:=⟨w.heap.size,0,none⟩) (Nat.le_refl _) _).setCell (p:=⟨w.heap.size,1,none⟩) (Nat.le_refl _) _).setCell (p:=⟨w.heap.size,2,none⟩) (Nat.le_refl _) _⟩
 ·have hx' :=hx
  obtain ⟨A,hA⟩: ∃A,s.takeWhile (· !=58)=A:=⟨_,rfl⟩
  obtain ⟨B,hB⟩: ∃B,(s.dropWhile (· !=58)).tail=B:=⟨_,rfl⟩
  have HA:=η14 hA;have HBe:=η14 hB;have HM:=η14 hm;rw[hA] at hlA;rw[hB] at hlB;simp only[hA,hB];have HX:=η14 (HX0.out.trans hx);have hb:=HB0.out.ext hx;have HB1:=η14 hb;have k0:=hb.cell 0;have k1:=hb.cell 1;have k2:=hb.cell 2;have f0:=hb.free 0;have f1:=hb.free 1;have f2:=hb.free 2;clear hA hB hm hx hx' hb HC HB0 HX0
  cases A with
  | nil=>
   have HE:Hid (R=(q6R,10)):=η14 (by rw[←HR.out,z4Y HM.out HA.out];rfl);go_wp2_with fail
   ((try simp only[Exit.inBlock,Exit.then]);refine bodyPost_ret (v:= .tuple #[.agg #[.string ⟨#[]⟩,.int .i64 0,.bool false],.int .i64 10]) (by rw[q0D rfl];go_simp) rfl ?_)
   exact ⟨by rw[HE.out],((HX.out.setCell (p:=⟨w.heap.size,0,none⟩) (Nat.le_refl _) _).setCell (p:=⟨w.heap.size,1,none⟩) (Nat.le_refl _) _).setCell (p:=⟨w.heap.size,2,none⟩) (Nat.le_refl _) _⟩
  | cons a ds=>
   rw[List.length_cons] at hlA;by_cases ha:a≠102∧a≠98
   ·have d1:(a==102)=false:=beq_eq_false_iff_ne.2 ha.1
    have d2:(a==98)=false:=beq_eq_false_iff_ne.2 ha.2;have d3:(a !=102)=true:=by simpa using ha.1
    have d4:(a !=98)=true:=by simpa using ha.2
    have HE:Hid (R=(q6R,10)):=η14 (by rw[←HR.out,z4V HM.out HA.out ha];rfl);clear ha;go_wp2_with fail
    ((try simp only[Exit.inBlock,Exit.then]);refine bodyPost_ret (v:= .tuple #[.agg #[.string ⟨#[]⟩,.int .i64 0,.bool false],.int .i64 10]) (by rw[q0D rfl];go_simp) rfl ?_)
    exact ⟨by rw[HE.out],((HX.out.setCell (p:=⟨w.heap.size,0,none⟩) (Nat.le_refl _) _).setCell (p:=⟨w.heap.size,1,none⟩) (Nat.le_refl _) _).setCell (p:=⟨w.heap.size,2,none⟩) (Nat.le_refl _) _⟩
   ·have ha2:a=102∨a=98:=by
     by_cases e:a=102
     ·exact .inl e
     ·exact .inr (Decidable.not_not.1 fun e2=>ha ⟨e,e2⟩)
    have HNu:=η14 (fun W=>z6k ds (by omega) W);have hcases:(z2A ds=none∧z6Z ds= -1)∨ ∃n:Nat,z2A ds=some n∧z6Z ds=(n:Int)∧n<10000000000:=by
     unfold z6Z
     cases h:z2A ds with
     |none=>exact .inl ⟨rfl,rfl⟩
     |some n=>exact .inr ⟨n,rfl,rfl,z9l h⟩
    rcases hcases with ⟨hn1,hn2⟩|⟨n,hn1,hn2,hn3⟩
    ·have HE:Hid (R=(q6R,10)):=η14 (by rw[←HR.out,z5V HM.out HA.out ha hn1];rfl)
     rw[hn2] at HNu;clear ha hn1 hn2;rcases ha2 with rfl|rfl
     ·go_wp2_with fail
      refine (HNu.out _).mono ?_;rintro e w2 ⟨rfl,hx⟩;have hxa:=q0B w2 (.cells #[.string ⟨B.toArray⟩,.int .i64 (-2),.bool false] 63);have HX2:=η14 ((HX.out.trans hx).trans hxa);have hb:=HB1.out.ext (hx.trans hxa);have k0:=hb.cell 0;have k1:=hb.cell 1;have k2:=hb.cell 2;have f0:=hb.free 0;have f1:=hb.free 1;have f2:=hb.free 2;clear hx hb hxa;go_wp2_with fail
      ((try simp only[Exit.inBlock,Exit.then]);refine bodyPost_ret (v:= .tuple #[.agg #[.string ⟨#[]⟩,.int .i64 0,.bool false],.int .i64 10]) (by rw[q0D rfl];go_simp) rfl ?_)
      exact ⟨by rw[HE.out],((HX2.out.setCell (p:=⟨w.heap.size,0,none⟩) (Nat.le_refl _) _).setCell (p:=⟨w.heap.size,1,none⟩) (Nat.le_refl _) _).setCell (p:=⟨w.heap.size,2,none⟩) (Nat.le_refl _) _⟩
     ·go_wp2_with fail
      refine (HNu.out _).mono ?_;rintro e w2 ⟨rfl,hx⟩;have hxa:=q0B w2 (.cells #[.string ⟨B.toArray⟩,.int .i64 (-2),.bool true] 63);have HX2:=η14 ((HX.out.trans hx).trans hxa);have hb:=HB1.out.ext (hx.trans hxa);have k0:=hb.cell 0;have k1:=hb.cell 1;have k2:=hb.cell 2;have f0:=hb.free 0;have f1:=hb.free 1;have f2:=hb.free 2;clear hx hb hxa;go_wp2_with fail
      ((try simp only[Exit.inBlock,Exit.then]);refine bodyPost_ret (v:= .tuple #[.agg #[.string ⟨#[]⟩,.int .i64 0,.bool false],.int .i64 10]) (by rw[q0D rfl];go_simp) rfl ?_)
      exact ⟨by rw[HE.out],((HX2.out.setCell (p:=⟨w.heap.size,0,none⟩) (Nat.le_refl _) _).setCell (p:=⟨w.heap.size,1,none⟩) (Nat.le_refl _) _).setCell (p:=⟨w.heap.size,2,none⟩) (Nat.le_refl _) _⟩
    ·have HE:Hid (R=z2x (if q3F ⟨B,(n:Int)-1,a==98⟩=true then some ⟨B,(n:Int)-1,a==98⟩ else none)):=η14 (by rw[←HR.out,z5b HM.out HA.out ha hn1,HBe.out])
     rw[hn2] at HNu;obtain ⟨m,hm⟩: ∃m:Int,(n:Int)-1=m:=⟨_,rfl⟩
     have q1:IntKind.i64.wrap ((n:Int)-1)=m:=by rw[IntKind.wrap_i64];omega
     have d5:decide ((n:Int)<0)=false:=decide_eq_false (by omega);rw[hm] at HE;have HCh:=η14 (fun (d:Bool) W=>q6K ⟨B,m,d⟩ (by show B.length≤9223372036854775807;omega) W);have hn4:(n:Int)≤10000000000:=by omega
     clear ha hn1 hn2 hm hn3;rcases ha2 with rfl|rfl
     ·have HCc:=η14 (HCh.out false)
      have HE2:Hid (R=z2x (if q3F ⟨B,m,false⟩=true then some ⟨B,m,false⟩ else none)):=HE.out;obtain ⟨z,hz⟩: ∃z,q3F ⟨B,m,false⟩=z:=⟨_,rfl⟩
      rw[hz] at HCc HE2;clear HCh HE hz;go_wp2_with fail;refine (HNu.out _).mono ?_;rintro e w2 ⟨rfl,hx⟩;have hxa:=q0B w2 (.cells #[.string ⟨B.toArray⟩,.int .i64 m,.bool false] 63);have HX2:=η14 ((HX.out.trans hx).trans hxa);have HB2:=η14 (HB1.out.ext (hx.trans hxa));have HB3:=η14 (Blk.new w2 63 #[.string ⟨B.toArray⟩,.int .i64 m,.bool false]);clear hx hxa HNu k0 k1 k2 f0 f1 f2;go_wp2_with fail;refine (HCc.out _).mono ?_;rintro e w3 ⟨rfl,hx⟩;have HX3:=η14 (HX2.out.trans hx);have hb:=HB2.out.ext hx;have k0:=hb.cell 0;have k1:=hb.cell 1;have k2:=hb.cell 2;have f0:=hb.free 0;have f1:=hb.free 1;have f2:=hb.free 2;have hb3:=HB3.out.ext hx;have j0:=hb3.cell 0;have j1:=hb3.cell 1;have j2:=hb3.cell 2;clear hx hb hb3 HCc
      cases z with
      | false=>
       go_wp2_with fail
       ((try simp only[Exit.inBlock,Exit.then]);refine bodyPost_ret (v:= .tuple #[.agg #[.string ⟨#[]⟩,.int .i64 0,.bool false],.int .i64 10]) (by rw[q0D rfl];go_simp) rfl ?_)
       exact ⟨by rw[HE2.out];rfl,((HX3.out.setCell (p:=⟨w.heap.size,0,none⟩) (Nat.le_refl _) _).setCell (p:=⟨w.heap.size,1,none⟩) (Nat.le_refl _) _).setCell (p:=⟨w.heap.size,2,none⟩) (Nat.le_refl _) _⟩
      | true=>
       go_wp2_with fail
       ((try simp only[Exit.inBlock,Exit.then]);refine bodyPost_ret (v:= .tuple #[.agg #[.string ⟨B.toArray⟩,.int .i64 m,.bool false],.int .i64 0]) (by rw[q0D rfl];go_simp) rfl ?_)
       exact ⟨by rw[HE2.out];rfl,((HX3.out.setCell (p:=⟨w.heap.size,0,none⟩) (Nat.le_refl _) _).setCell (p:=⟨w.heap.size,1,none⟩) (Nat.le_refl _) _).setCell (p:=⟨w.heap.size,2,none⟩) (Nat.le_refl _) _⟩
     ·have HCc:=η14 (HCh.out true)
      have HE2:Hid (R=z2x (if q3F ⟨B,m,true⟩=true then some ⟨B,m,true⟩ else none)):=HE.out;obtain ⟨z,hz⟩: ∃z,q3F ⟨B,m,true⟩=z:=⟨_,rfl⟩
      rw[hz] at HCc HE2;clear HCh HE hz;go_wp2_with fail;refine (HNu.out _).mono ?_;rintro e w2 ⟨rfl,hx⟩;have hxa:=q0B w2 (.cells #[.string ⟨B.toArray⟩,.int .i64 m,.bool true] 63);have HX2:=η14 ((HX.out.trans hx).trans hxa);have HB2:=η14 (HB1.out.ext (hx.trans hxa));have HB3:=η14 (Blk.new w2 63 #[.string ⟨B.toArray⟩,.int .i64 m,.bool true]);clear hx hxa HNu k0 k1 k2 f0 f1 f2;go_wp2_with fail;refine (HCc.out _).mono ?_;rintro e w3 ⟨rfl,hx⟩;have HX3:=η14 (HX2.out.trans hx);have hb:=HB2.out.ext hx;have k0:=hb.cell 0;have k1:=hb.cell 1;have k2:=hb.cell 2;have f0:=hb.free 0;have f1:=hb.free 1;have f2:=hb.free 2;have hb3:=HB3.out.ext hx;have j0:=hb3.cell 0;have j1:=hb3.cell 1;have j2:=hb3.cell 2;clear hx hb hb3 HCc
      cases z with
      | false=>
       go_wp2_with fail
       ((try simp only[Exit.inBlock,Exit.then]);refine bodyPost_ret (v:= .tuple #[.agg #[.string ⟨#[]⟩,.int .i64 0,.bool false],.int .i64 10]) (by rw[q0D rfl];go_simp) rfl ?_)
       exact ⟨by rw[HE2.out];rfl,((HX3.out.setCell (p:=⟨w.heap.size,0,none⟩) (Nat.le_refl _) _).setCell (p:=⟨w.heap.size,1,none⟩) (Nat.le_refl _) _).setCell (p:=⟨w.heap.size,2,none⟩) (Nat.le_refl _) _⟩
      | true=>
       go_wp2_with fail
       ((try simp only[Exit.inBlock,Exit.then]);refine bodyPost_ret (v:= .tuple #[.agg #[.string ⟨B.toArray⟩,.int .i64 m,.bool true],.int .i64 0]) (by rw[q0D rfl];go_simp) rfl ?_)
       exact ⟨by rw[HE2.out];rfl,((HX3.out.setCell (p:=⟨w.heap.size,0,none⟩) (Nat.le_refl _) _).setCell (p:=⟨w.heap.size,1,none⟩) (Nat.le_refl _) _).setCell (p:=⟨w.heap.size,2,none⟩) (Nat.le_refl _) _⟩
end
section
open Go.RowKit
theorem q7m (c:Cur) (hs:c.st.length≤9223372036854775807) (w:World):Calls Tryz.prog 21 #[z2e c] w fun e w'=>e= .returned (.tuple #[.string ⟨(q8X c).toArray⟩,.int .i64 (if q3F c=true then 0 else 2)])∧Ext w w':=by
 have HC:=η14 (fun W=>z9c c hs W);have hst:=@q9C c;have hbd:=@q3S c;have HP:Hid (q8X c=if q3F c=true then q7b c.dn::(Lib.decDigits (c.nx+1).toNat++58::c.st) else []):=η14 rfl;obtain ⟨st,nx,dn⟩:=c;have hx1:=q0B w (.cells #[.string ⟨st.toArray⟩,.int .i64 nx,.bool dn] 67);have HX:=η14 hx1;have HB:=η14 (Blk.new w 67 #[.string ⟨st.toArray⟩,.int .i64 nx,.bool dn]);simp only at hs hst hbd;obtain ⟨m,hm⟩: ∃m,q3F ⟨st,nx,dn⟩=m:=⟨_,rfl⟩
 rw[hm] at HC HP hst hbd⊢;clear hx1 hm;generalize q8X ⟨st,nx,dn⟩=R at*;go_enter Tryz.func21,Tryz.ntmps21;go_wp2_with fail;refine (HC.out _).mono ?_;rintro e w1 ⟨rfl,hx⟩;have hbk:=HB.out.ext hx;have k0:=hbk.cell 0;have k1:=hbk.cell 1;have k2:=hbk.cell 2;have HX1:=η14 (HX.out.trans hx);clear hx HC HB hbk
 cases m with
 | false=>
  have HR:Hid (R=[]):=HP.out;go_wp2_with fail;go_ret2;exact ⟨by rw[HR.out];rfl,HX1.out⟩
 | true=>
  have hst':=hst rfl;obtain ⟨_,hb1,hb2⟩:=hbd rfl;obtain ⟨n,hn⟩: ∃n:Nat,nx+1=(n:Int):=⟨(nx+1).toNat,by omega⟩
  have q1:IntKind.i64.wrap (nx+1)=(n:Int):=by rw[IntKind.wrap_i64];omega
  have HI:=η14 (fun x:ExtOf w1=>z0k n (by omega) x.w');have hD:(Lib.decDigits n).length≤10:=q3T (by omega);have HR:Hid (R=q7b dn::(Lib.decDigits n++58::st)):=η14 (by have:=HP.out;rw[if_pos rfl] at this;refine this.trans ?_;show q7b dn::(Lib.decDigits (nx+1).toNat++58::st)=_;rw[show (nx+1).toNat=n by omega]);generalize Lib.decDigits n=D at*;have u0:=q0F k0;have u1:=q0F k1;have q2:¬(9223372036854775807<[q7b dn].length+D.length):=by simp;omega
  have q3:¬(9223372036854775807<([q7b dn]++D).length+[(58:UInt8)].length):=by simp;omega
  have q4:¬(9223372036854775807<(([q7b dn]++D)++[(58:UInt8)]).length+st.length):=by simp;omega
  clear hst hbd hb1 hb2 HP hn k0 k1
  cases dn
  all_goals
   simp only[q7b,Bool.false_eq_true,if_false,if_true] at q2 q3 q4 HR;go_wp2_with fail;refine q0E (by kernel_rfl) (by kernel_rfl) ?_
   repeat (go_big_quiet_step (fail))
   go_big_quiet_step (exact Calls.quiet_ext (HI.out _))
   repeat (go_big_quiet_step (fail))
   refine wpQuiet_nil ?_;intro w3 hw;have HX3:=η14 (HX1.out.trans hw);clear hw;go_wp2_with fail;go_ret2;exact ⟨by rw[HR.out];simp[q2i],HX3.out⟩
theorem z4g {p:UInt8→Bool}: ∀(r:List UInt8) (k N:Nat),(r.take k).all p=true→k≤N→(r.length≤k∨k=N∨ ∃u,r[k]? =some u∧p u=false)→(r.takeWhile p).take N=r.take k
 |[],k,N,_,_,_=>by simp
 | a::t,0,N,_,_,h=>by
  rcases h with h|h|⟨u,h1,h2⟩
  ·simp at h
  ·subst h;simp
  ·simp at h1;subst h1;simp[h2]
 |a::t,k+1,0,_,h,_=>by omega
 | a ::t,k+1,N+1,h,hk,hs=>by
  rw[List.take_succ_cons,List.all_cons,Bool.and_eq_true] at h;rw[List.takeWhile_cons,h.1];simp only[if_true]
  rw [List.take_succ_cons,List.take_succ_cons,z4g t k N h.2 (by omega) (by
   rcases hs with hs|hs|⟨u,h1,h2⟩
   ·left;simpa using hs
   ·right;left;omega
   ·right;right;exact ⟨u,by simpa using h1,h2⟩)]
theorem z6v {s:List UInt8} {c:Cur} (h:z6Y s=c):z2x (q7i s)=if q3F c=true∧q4C c=s then (c,0) else (q6R,10):=by
 unfold q7i;rw[h]
 split
 ·rfl
 ·rfl
theorem y0J (s : List UInt8) (hs:s.length≤1000000) (w:World):Calls Tryz.prog 23 #[.string ⟨s.toArray⟩] w fun e w'=>e= .returned (.tuple #[z2e (z2x (q7i s)).1,.int .i64 (z2x (q7i s)).2])∧Ext w w':=by
 obtain ⟨R,hR⟩: ∃R,z2x (q7i s)=R:=⟨_,rfl⟩
 obtain ⟨dn,hdn⟩: ∃dn,(s.head? ==some 98)=dn:=⟨_,rfl⟩
 have hx1:=q2I w (.cells #[.string ⟨#[]⟩,.int .i64 0,.bool false] 67) (.cells #[.string ⟨#[]⟩,.int .i64 0,.bool dn] 67);have hxb:=q0B (w.alloc (.cells #[.string ⟨#[]⟩,.int .i64 0,.bool false] 67)) (.cells #[.string ⟨#[]⟩,.int .i64 0,.bool dn] 67);have HB0:=η14 ((Blk.new w 67 #[.string ⟨#[]⟩,.int .i64 0,.bool false]).ext hxb);have hb1:=Blk.new (w.alloc (.cells #[.string ⟨#[]⟩,.int .i64 0,.bool false] 67)) 67 #[.string ⟨#[]⟩,.int .i64 0,.bool dn];rw[World.size_alloc] at hb1;have HB1:=η14 hb1;have HX1:=η14 hx1;have HD:Hid (∀k,((s.drop 1).take k).all q0U=true→k≤11→k≤s.length-1→((s.drop 1).length≤k∨k=11∨ ∃u,(s.drop 1)[k]? =some u∧q0U u=false)→z6Y s=⟨s.drop (1+k+1),(unD ((s.drop 1).take k):Int)-1,dn⟩):=η14 fun k h1 h2 h3 h4=>by
  unfold z6Y y0D;rw[z4g (s.drop 1) k 11 h1 h2 h4,hdn,List.length_take,List.length_drop,Nat.min_eq_left h3]
 have HG:Hid (∀c,z6Y s=c→R=if q3F c=true∧q4C c=s then (c,0) else (q6R,10)):=η14 fun c h=>by rw[←hR];exact z6v h
 have hsz:((w.alloc (.cells #[.string ⟨#[]⟩,.int .i64 0,.bool false] 67)).alloc (.cells #[.string ⟨#[]⟩,.int .i64 0,.bool dn] 67)).heap.size=w.heap.size+2:=by simp
 have HSz:=η14 hsz;rw[hR];have hcs:(s=[]∧dn=false)∨(∃c,s[0]? =some c∧((c.toNat:Int)==98)=dn∧0<s.length):=by
  cases s with
  |nil=>exact .inl ⟨rfl,by rw[←hdn];rfl⟩
  | cons c t=>
   refine .inr ⟨c,rfl,?_,by simp⟩;rw[←hdn];by_cases e:c=98
   ·subst e;rfl
   ·have e1:((c.toNat:Int)==98)=false:=beq_eq_false_iff_ne.2 fun h=>e (UInt8.toNat_inj.1 (by show c.toNat=98;omega))
    rw[e1];simp[e]
 clear hR hdn hx1 hxb hb1 hsz;have hmain: ∀(b:Bool),(decide ((0:Int)<(s.length:Int))=b)→(b=false→dn=false∧s=[])→(b=true→ ∃c,s[0]? =some c∧((c.toNat:Int)==98)=dn)→True:=fun _ _ _ _=>trivial
 clear hmain;rcases hcs with ⟨rfl,rfl⟩|⟨c,hc,hcd,hp⟩
 ·have hl0:decide ((0:Int)<(([]:List UInt8).length:Int))=false:=rfl
  go_enter Tryz.func23,Tryz.ntmps23;go_wp2_with fail
  go_loopw [5,6] (fun on oa W=>on= .int .i64 (0:Int)∧oa= .int .i64 (1:Int)∧W=((w.alloc (.cells #[.string ⟨#[]⟩,.int .i64 0,.bool false] 67)).alloc (.cells #[.string ⟨#[]⟩,.int .i64 0,.bool false] 67))) (fun _ _ _=>0)
  case atStart=>exact ⟨rfl,rfl,rfl⟩
  case round=>
   obtain ⟨rfl,rfl,rfl⟩:=hrel;have HC:Hid (z6Y []=⟨[],-1,false⟩):=η14 rfl;have HPu:=η14 (fun W=>q7m ⟨[],-1,false⟩ (by show ([]:List UInt8).length≤9223372036854775807;simp) W);have HGG:=η14 (HG.out _ HC.out);obtain ⟨z,hz⟩: ∃z,q3F ⟨[],-1,false⟩=z:=⟨_,rfl⟩
   obtain ⟨T,hT⟩: ∃T,q4C ⟨[],-1,false⟩=T:=⟨_,rfl⟩
   have hpn:q8X ⟨[],-1,false⟩=if z=true then T else []:=by unfold q8X;rw[hz,hT]
   rw[hpn,hz] at HPu;rw[hz,hT] at HGG;have j0:=HB1.out.cell 0;have j1:=HB1.out.cell 1;have j2:=HB1.out.cell 2;have g0:=HB1.out.free 0;have g1:=HB1.out.free 1;have hbn:=Blk.new (w.alloc (.cells #[.string ⟨#[]⟩,.int .i64 0,.bool false] 67)) 67 #[.string ⟨#[]⟩,.int .i64 (-1),.bool false];rw[World.size_alloc] at hbn;have HBn:=η14 hbn;have HBq:=η14 ((Blk.new w 67 #[.string ⟨#[]⟩,.int .i64 0,.bool false]).ext (q0B _ (.cells #[.string ⟨#[]⟩,.int .i64 (-1),.bool false] 67)));have HXn:Hid (Ext w ((w.alloc (.cells #[.string ⟨#[]⟩,.int .i64 0,.bool false] 67)).alloc (.cells #[.string ⟨#[]⟩,.int .i64 (-1),.bool false] 67))):=η14 (q2I w _ _);clear hbn;have i0:=HBn.out.cell 0;have i1:=HBn.out.cell 1;have i2:=HBn.out.cell 2;clear hz hT hpn;go_wp2_with fail;refine (HPu.out _).mono ?_;rintro e w3 ⟨rfl,hx⟩;have HX3:=η14 (HXn.out.trans hx);have hq:=HBq.out.ext hx;have k0:=hq.cell 0;have k1:=hq.cell 1;have k2:=hq.cell 2;have f0:=hq.free 0;have f1:=hq.free 1;have f2:=hq.free 2
   have hc:=HBn.out.ext hx;have l0:=hc.cell 0;have l1:=hc.cell 1;have l2:=hc.cell 2;clear hx hq hc HPu j0 j1 j2 g0 g1 i0 i1 i2
   cases z with
   | false=>
    have HR:Hid (R=(q6R,10)):=η14 (by rw[HGG.out,if_neg (fun h=>by cases h.1)]);go_wp2_with fail
    ((try simp only[Exit.inBlock,Exit.then]);refine bodyPost_ret (v:= .tuple #[.agg #[.string ⟨#[]⟩,.int .i64 0,.bool false],.int .i64 10]) (by rw[q0D rfl];go_simp) rfl ?_)
    exact ⟨by rw[HR.out],((HX3.out.setCell (p:=⟨w.heap.size,0,none⟩) (Nat.le_refl _) _).setCell (p:=⟨w.heap.size,1,none⟩) (Nat.le_refl _) _).setCell (p:=⟨w.heap.size,2,none⟩) (Nat.le_refl _) _⟩
   | true=>
    by_cases hts:T=[]
    ·have HR:Hid (R=(⟨[],-1,false⟩,0)):=η14 (by rw[HGG.out,if_pos ⟨rfl,hts⟩])
     have e1:(T==[])=true:=by rw[hts];exact beq_self_eq_true ([]:List UInt8)
     have e2:(T !=[])=false:=by rw[hts];exact bne_self_eq_false ([]:List UInt8)
     clear hts;go_wp2_with fail
     ((try simp only[Exit.inBlock,Exit.then]);refine bodyPost_ret (v:= .tuple #[.agg #[.string ⟨#[]⟩,.int .i64 (-1),.bool false],.int .i64 0]) (by rw[q0D rfl];go_simp) rfl ?_)
     exact ⟨by rw[HR.out],((HX3.out.setCell (p:=⟨w.heap.size,0,none⟩) (Nat.le_refl _) _).setCell (p:=⟨w.heap.size,1,none⟩) (Nat.le_refl _) _).setCell (p:=⟨w.heap.size,2,none⟩) (Nat.le_refl _) _⟩
    ·have HR:Hid (R=(q6R,10)):=η14 (by rw[HGG.out,if_neg (fun h=>hts h.2)])
     have e1:(T==[])=false:=beq_eq_false_iff_ne.2 hts;have e2:(T !=[])=true:=by simpa using hts
     clear hts;go_wp2_with fail
     ((try simp only[Exit.inBlock,Exit.then]);refine bodyPost_ret (v:= .tuple #[.agg #[.string ⟨#[]⟩,.int .i64 0,.bool false],.int .i64 10]) (by rw[q0D rfl];go_simp) rfl ?_)
     exact ⟨by rw[HR.out],((HX3.out.setCell (p:=⟨w.heap.size,0,none⟩) (Nat.le_refl _) _).setCell (p:=⟨w.heap.size,1,none⟩) (Nat.le_refl _) _).setCell (p:=⟨w.heap.size,2,none⟩) (Nat.le_refl _) _⟩
 ·have hl0 : decide ((0:Int)<(s.length:Int))=true:=decide_eq_true (by omega)
  have hc0:=q9j hc;have HHc:=η14 hc;clear hc;go_enter Tryz.func23,Tryz.ntmps23;go_wp2_with fail
  go_loopw [5,6] (fun on oa W=> ∃k a m:Nat,on= .int .i64 (m:Int)∧oa= .int .i64 (a:Int)∧Hid (a=k+1)∧k≤11∧k≤s.length-1∧Hid (((s.drop 1).take k).all q0U=true∧m=unD ((s.drop 1).take k))∧W=((w.alloc (.cells #[.string ⟨#[]⟩,.int .i64 0,.bool false] 67)).alloc (.cells #[.string ⟨#[]⟩,.int .i64 0,.bool dn] 67))) (fun _ oa _=>s.length-(intOf oa).toNat)
  case atStart=>exact ⟨0,1,0,rfl,rfl,η14 rfl,by omega,by omega,η14 ⟨rfl,rfl⟩,rfl⟩
  case round =>
   obtain ⟨k,a,m,rfl,rfl,HAK,hk11,hk2,HM,rfl⟩:=hrel;have hmb:m≤99999999999:=by
    have h1:=z0D _ HM.out.1;rw[←HM.out.2] at h1;have h2:((s.drop 1).take k).length≤11:=by rw[List.length_take];omega
    have h3:10^((s.drop 1).take k).length≤10^11:=Nat.pow_le_pow_right (by decide) h2;have h4:(10:Nat)^11=100000000000:=by decide
    omega
   by_cases hlt:a<s.length
   ·have d1 : decide ((a:Int)<(s.length:Int))=true:=decide_eq_true (by omega)
    obtain ⟨u,hu⟩: ∃u,s[a]? =some u:=⟨_,List.getElem?_eq_getElem hlt⟩
    have hu1:=q9j hu;have hru:(s.drop 1)[k]? =some u:=by rw[List.getElem?_drop,←hu,HAK.out,Nat.add_comm]
    by_cases ha12:a<12
    ·have d2 :decide ((a:Int)<(12:Int))=true:=decide_eq_true (by omega)
     by_cases hlo:48≤(u.toNat:Int)
     ·have d3:decide ((48:Int)≤(u.toNat:Int))=true:=decide_eq_true hlo
      by_cases hhi:(u.toNat:Int)≤57
      ·have d4:decide ((u.toNat:Int)≤(57:Int))=true:=decide_eq_true hhi
       have HM2:Hid (((s.drop 1).take (k+1)).all q0U=true∧unD ((s.drop 1).take (k+1))=unD ((s.drop 1).take k)*10+(u.toNat-48)):=η14 ⟨q3R hru HM.out.1 ((q1H u).2 (by omega)),q2o hru⟩;obtain ⟨mi,hmi⟩: ∃mi:Int,(m:Int)=mi:=⟨_,rfl⟩
       obtain ⟨ui,hui⟩: ∃ui:Int,(u.toNat:Int)=ui:=⟨_,rfl⟩
       have q1:IntKind.i64.wrap (10*mi)=10*mi:=by rw[IntKind.wrap_i64];omega
       have q2:IntKind.u8.wrap (ui-48)=ui-48:=by rw[IntKind.wrap_u8];omega
       have q3:IntKind.i64.wrap (ui-48)=ui-48:=by rw[IntKind.wrap_i64];omega
       have q4:IntKind.i64.wrap (10*mi+(ui-48))=10*mi+(ui-48):=by rw[IntKind.wrap_i64];omega
       have q5:IntKind.i64.wrap ((a:Int)+1)=(a:Int)+1:=by rw[IntKind.wrap_i64];omega
       have HRs:Hid (10*mi+(ui-48)=((m*10+(u.toNat-48):Nat):Int)):=η14 (by omega);rw[hui] at d3 d4;have hui2:=hui;rw[hmi];clear hmi hlo hhi hru hui2 hmb;go_wp2_with fail
       go_roundw
       case rel=>exact ⟨k+1,a+1,m*10+(u.toNat-48),by rw[HRs.out],by go_num,η14 (by have:=HAK.out;omega),by have:=HAK.out;omega,by have:=HAK.out;omega,η14 ⟨HM2.out.1,by rw[HM2.out.2,←HM.out.2]⟩,trivial⟩
       case measure=>simp[intOf];omega
      ·have d4:decide ((u.toNat:Int)≤(57:Int))=false:=decide_eq_false hhi
       have HC0:=HD.out k HM.out.1 hk11 hk2 (.inr (.inr ⟨u,hru,by rw[Bool.eq_false_iff];intro h;have:=(q1H u).1 h;omega⟩));rw[←HM.out.2,show 1+k+1=a+1 by have:=HAK.out;omega] at HC0;obtain ⟨X,hX⟩: ∃X,s.drop (a+1)=X:=⟨_,rfl⟩
       obtain ⟨M,hM⟩: ∃M:Int,(m:Int)-1=M:=⟨_,rfl⟩
       rw[hX,hM] at HC0;have HC:=η14 HC0;have q6:IntKind.i64.wrap ((m:Int)-1)=M:=by rw[IntKind.wrap_i64];omega
       have hXl:X.length≤s.length:=by rw[←hX,List.length_drop];omega
       have q7:IntKind.i64.wrap ((a:Int)+1)=(a:Int)+1:=by rw[IntKind.wrap_i64];omega
       have q9:a+1≤s.length:=by omega
       have HXd:=η14 hX;clear HC0 hM hmb;clear hlo hhi hru;have HPu:=η14 (fun W=>q7m ⟨X,M,dn⟩ (by show X.length≤9223372036854775807;omega) W);have HGG:=η14 (HG.out _ HC.out);obtain ⟨z,hz⟩: ∃z,q3F ⟨X,M,dn⟩=z:=⟨_,rfl⟩
       obtain ⟨T,hT⟩: ∃T,q4C ⟨X,M,dn⟩=T:=⟨_,rfl⟩
       have hpn:q8X ⟨X,M,dn⟩=if z=true then T else []:=by unfold q8X;rw[hz,hT]
       rw[hpn,hz] at HPu;rw[hz,hT] at HGG;have j0:=HB1.out.cell 0;have j1:=HB1.out.cell 1;have j2:=HB1.out.cell 2;have g0:=HB1.out.free 0;have g1:=HB1.out.free 1;have hbn:=Blk.new (w.alloc (.cells #[.string ⟨#[]⟩,.int .i64 0,.bool false] 67)) 67 #[.string ⟨X.toArray⟩,.int .i64 M,.bool dn];rw[World.size_alloc] at hbn;have HBn:=η14 hbn;have HBq:=η14 ((Blk.new w 67 #[.string ⟨#[]⟩,.int .i64 0,.bool false]).ext (q0B _ (.cells #[.string ⟨X.toArray⟩,.int .i64 M,.bool dn] 67)));have HXn:Hid (Ext w ((w.alloc (.cells #[.string ⟨#[]⟩,.int .i64 0,.bool false] 67)).alloc (.cells #[.string ⟨X.toArray⟩,.int .i64 M,.bool dn] 67))):=η14 (q2I w _ _);clear hbn;have i0:=HBn.out.cell 0;have i1:=HBn.out.cell 1;have i2:=HBn.out.cell 2;clear hz hT hpn;go_wp2_with fail;refine (HPu.out _).mono ?_;rintro e w3 ⟨rfl,hx⟩;have HX3:=η14 (HXn.out.trans hx);have hq:=HBq.out.ext hx;have k0:=hq.cell 0;have k1:=hq.cell 1;have k2:=hq.cell 2;have f0:=hq.free 0;have f1:=hq.free 1;have f2:=hq.free 2
       have hc:=HBn.out.ext hx;have l0:=hc.cell 0;have l1:=hc.cell 1;have l2:=hc.cell 2;clear hx hq hc HPu j0 j1 j2 g0 g1 i0 i1 i2
       cases z with
       | false=>
        have HR:Hid (R=(q6R,10)):=η14 (by rw[HGG.out,if_neg (fun h=>by cases h.1)]);go_wp2_with fail
        ((try simp only[Exit.inBlock,Exit.then]);refine bodyPost_ret (v:= .tuple #[.agg #[.string ⟨#[]⟩,.int .i64 0,.bool false],.int .i64 10]) (by rw[q0D rfl];go_simp) rfl ?_)
        exact ⟨by rw[HR.out],((HX3.out.setCell (p:=⟨w.heap.size,0,none⟩) (Nat.le_refl _) _).setCell (p:=⟨w.heap.size,1,none⟩) (Nat.le_refl _) _).setCell (p:=⟨w.heap.size,2,none⟩) (Nat.le_refl _) _⟩
       | true=>
        by_cases hts:T=s
        ·have HR:Hid (R=(⟨X,M,dn⟩,0)):=η14 (by rw[HGG.out,if_pos ⟨rfl,hts⟩])
         have e1:(T==s)=true:=by rw[hts];exact beq_self_eq_true s
         have e2:(T !=s)=false:=by rw[hts];exact bne_self_eq_false s
         clear hts;go_wp2_with fail
         ((try simp only[Exit.inBlock,Exit.then]);refine bodyPost_ret (v:= .tuple #[.agg #[.string ⟨X.toArray⟩,.int .i64 M,.bool dn],.int .i64 0]) (by rw[q0D rfl];go_simp) rfl ?_)
         exact ⟨by rw[HR.out],((HX3.out.setCell (p:=⟨w.heap.size,0,none⟩) (Nat.le_refl _) _).setCell (p:=⟨w.heap.size,1,none⟩) (Nat.le_refl _) _).setCell (p:=⟨w.heap.size,2,none⟩) (Nat.le_refl _) _⟩
        ·have HR:Hid (R=(q6R,10)):=η14 (by rw[HGG.out,if_neg (fun h=>hts h.2)])
         have e1:(T==s)=false:=beq_eq_false_iff_ne.2 hts;have e2:(T !=s)=true:=by simpa using hts
         clear hts;go_wp2_with fail
         ((try simp only[Exit.inBlock,Exit.then]);refine bodyPost_ret (v:= .tuple #[.agg #[.string ⟨#[]⟩,.int .i64 0,.bool false],.int .i64 10]) (by rw[q0D rfl];go_simp) rfl ?_)
         exact ⟨by rw[HR.out],((HX3.out.setCell (p:=⟨w.heap.size,0,none⟩) (Nat.le_refl _) _).setCell (p:=⟨w.heap.size,1,none⟩) (Nat.le_refl _) _).setCell (p:=⟨w.heap.size,2,none⟩) (Nat.le_refl _) _⟩
     ·have d3:decide ((48:Int)≤(u.toNat:Int))=false:=decide_eq_false hlo
      have HC0:=HD.out k HM.out.1 hk11 hk2 (.inr (.inr ⟨u,hru,by rw[Bool.eq_false_iff];intro h;have:=(q1H u).1 h;omega⟩));rw[←HM.out.2,show 1+k+1=a+1 by have:=HAK.out;omega] at HC0;obtain ⟨X,hX⟩: ∃X,s.drop (a+1)=X:=⟨_,rfl⟩
      obtain ⟨M,hM⟩: ∃M:Int,(m:Int)-1=M:=⟨_,rfl⟩
      rw[hX,hM] at HC0;have HC:=η14 HC0;have q6:IntKind.i64.wrap ((m:Int)-1)=M:=by rw[IntKind.wrap_i64];omega
      have hXl:X.length≤s.length:=by rw[←hX,List.length_drop];omega
      have q7:IntKind.i64.wrap ((a:Int)+1)=(a:Int)+1:=by rw[IntKind.wrap_i64];omega
      have q9:a+1≤s.length:=by omega
      have HXd:=η14 hX;clear HC0 hM hmb;clear hlo hru;have HPu:=η14 (fun W=>q7m ⟨X,M,dn⟩ (by show X.length≤9223372036854775807;omega) W);have HGG:=η14 (HG.out _ HC.out);obtain ⟨z,hz⟩: ∃z,q3F ⟨X,M,dn⟩=z:=⟨_,rfl⟩
      obtain ⟨T,hT⟩: ∃T,q4C ⟨X,M,dn⟩=T:=⟨_,rfl⟩
      have hpn:q8X ⟨X,M,dn⟩=if z=true then T else []:=by unfold q8X;rw[hz,hT]
      rw[hpn,hz] at HPu;rw[hz,hT] at HGG;have j0:=HB1.out.cell 0;have j1:=HB1.out.cell 1;have j2:=HB1.out.cell 2;have g0:=HB1.out.free 0;have g1:=HB1.out.free 1;have hbn:=Blk.new (w.alloc (.cells #[.string ⟨#[]⟩,.int .i64 0,.bool false] 67)) 67 #[.string ⟨X.toArray⟩,.int .i64 M,.bool dn];rw[World.size_alloc] at hbn;have HBn:=η14 hbn;have HBq:=η14 ((Blk.new w 67 #[.string ⟨#[]⟩,.int .i64 0,.bool false]).ext (q0B _ (.cells #[.string ⟨X.toArray⟩,.int .i64 M,.bool dn] 67)));have HXn:Hid (Ext w ((w.alloc (.cells #[.string ⟨#[]⟩,.int .i64 0,.bool false] 67)).alloc (.cells #[.string ⟨X.toArray⟩,.int .i64 M,.bool dn] 67))):=η14 (q2I w _ _);clear hbn;have i0:=HBn.out.cell 0;have i1:=HBn.out.cell 1;have i2:=HBn.out.cell 2;clear hz hT hpn;go_wp2_with fail;refine (HPu.out _).mono ?_;rintro e w3 ⟨rfl,hx⟩;have HX3:=η14 (HXn.out.trans hx);have hq:=HBq.out.ext hx;have k0:=hq.cell 0;have k1:=hq.cell 1;have k2:=hq.cell 2;have f0:=hq.free 0;have f1:=hq.free 1;have f2:=hq.free 2
      have hc:=HBn.out.ext hx;have l0:=hc.cell 0;have l1:=hc.cell 1;have l2:=hc.cell 2;clear hx hq hc HPu j0 j1 j2 g0 g1 i0 i1 i2
      cases z with
      | false=>
       have HR:Hid (R=(q6R,10)):=η14 (by rw[HGG.out,if_neg (fun h=>by cases h.1)]);go_wp2_with fail
       ((try simp only[Exit.inBlock,Exit.then]);refine bodyPost_ret (v:= .tuple #[.agg #[.string ⟨#[]⟩,.int .i64 0,.bool false],.int .i64 10]) (by rw[q0D rfl];go_simp) rfl ?_)
       exact ⟨by rw[HR.out],((HX3.out.setCell (p:=⟨w.heap.size,0,none⟩) (Nat.le_refl _) _).setCell (p:=⟨w.heap.size,1,none⟩) (Nat.le_refl _) _).setCell (p:=⟨w.heap.size,2,none⟩) (Nat.le_refl _) _⟩
      | true=>
       by_cases hts:T=s
       ·have HR:Hid (R=(⟨X,M,dn⟩,0)):=η14 (by rw[HGG.out,if_pos ⟨rfl,hts⟩])
        have e1:(T==s)=true:=by rw[hts];exact beq_self_eq_true s
        have e2:(T !=s)=false:=by rw[hts];exact bne_self_eq_false s
        clear hts;go_wp2_with fail
        ((try simp only[Exit.inBlock,Exit.then]);refine bodyPost_ret (v:= .tuple #[.agg #[.string ⟨X.toArray⟩,.int .i64 M,.bool dn],.int .i64 0]) (by rw[q0D rfl];go_simp) rfl ?_)
        exact ⟨by rw[HR.out],((HX3.out.setCell (p:=⟨w.heap.size,0,none⟩) (Nat.le_refl _) _).setCell (p:=⟨w.heap.size,1,none⟩) (Nat.le_refl _) _).setCell (p:=⟨w.heap.size,2,none⟩) (Nat.le_refl _) _⟩
       ·have HR:Hid (R=(q6R,10)):=η14 (by rw[HGG.out,if_neg (fun h=>hts h.2)])
        have e1:(T==s)=false:=beq_eq_false_iff_ne.2 hts;have e2:(T !=s)=true:=by simpa using hts
        clear hts;go_wp2_with fail
        ((try simp only[Exit.inBlock,Exit.then]);refine bodyPost_ret (v:= .tuple #[.agg #[.string ⟨#[]⟩,.int .i64 0,.bool false],.int .i64 10]) (by rw[q0D rfl];go_simp) rfl ?_)
        exact ⟨by rw[HR.out],((HX3.out.setCell (p:=⟨w.heap.size,0,none⟩) (Nat.le_refl _) _).setCell (p:=⟨w.heap.size,1,none⟩) (Nat.le_refl _) _).setCell (p:=⟨w.heap.size,2,none⟩) (Nat.le_refl _) _⟩
    ·have d2:decide ((a:Int)<(12:Int))=false:=decide_eq_false (by omega)
     have HC0:=HD.out k HM.out.1 hk11 hk2 (.inr (.inl (by have:=HAK.out;omega)));rw[←HM.out.2,show 1+k+1=a+1 by have:=HAK.out;omega] at HC0;obtain ⟨X,hX⟩: ∃X,s.drop (a+1)=X:=⟨_,rfl⟩
     obtain ⟨M,hM⟩: ∃M:Int,(m:Int)-1=M:=⟨_,rfl⟩
     rw[hX,hM] at HC0;have HC:=η14 HC0;have q6:IntKind.i64.wrap ((m:Int)-1)=M:=by rw[IntKind.wrap_i64];omega
     have hXl:X.length≤s.length:=by rw[←hX,List.length_drop];omega
     have q7:IntKind.i64.wrap ((a:Int)+1)=(a:Int)+1:=by rw[IntKind.wrap_i64];omega
     have q9:a+1≤s.length:=by omega
     have HXd:=η14 hX;clear HC0 hM hmb;clear hru;have HPu:=η14 (fun W=>q7m ⟨X,M,dn⟩ (by show X.length≤9223372036854775807;omega) W);have HGG:=η14 (HG.out _ HC.out);obtain ⟨z,hz⟩: ∃z,q3F ⟨X,M,dn⟩=z:=⟨_,rfl⟩
     obtain ⟨T,hT⟩: ∃T,q4C ⟨X,M,dn⟩=T:=⟨_,rfl⟩
     have hpn:q8X ⟨X,M,dn⟩=if z=true then T else []:=by unfold q8X;rw[hz,hT]
     rw[hpn,hz] at HPu;rw[hz,hT] at HGG;have j0:=HB1.out.cell 0;have j1:=HB1.out.cell 1;have j2:=HB1.out.cell 2;have g0:=HB1.out.free 0;have g1:=HB1.out.free 1;have hbn:=Blk.new (w.alloc (.cells #[.string ⟨#[]⟩,.int .i64 0,.bool false] 67)) 67 #[.string ⟨X.toArray⟩,.int .i64 M,.bool dn];rw[World.size_alloc] at hbn;have HBn:=η14 hbn;have HBq:=η14 ((Blk.new w 67 #[.string ⟨#[]⟩,.int .i64 0,.bool false]).ext (q0B _ (.cells #[.string ⟨X.toArray⟩,.int .i64 M,.bool dn] 67)));have HXn:Hid (Ext w ((w.alloc (.cells #[.string ⟨#[]⟩,.int .i64 0,.bool false] 67)).alloc (.cells #[.string ⟨X.toArray⟩,.int .i64 M,.bool dn] 67))):=η14 (q2I w _ _);clear hbn;have i0:=HBn.out.cell 0;have i1:=HBn.out.cell 1;have i2:=HBn.out.cell 2;clear hz hT hpn;go_wp2_with fail;refine (HPu.out _).mono ?_;rintro e w3 ⟨rfl,hx⟩;have HX3:=η14 (HXn.out.trans hx);have hq:=HBq.out.ext hx;have k0:=hq.cell 0;have k1:=hq.cell 1;have k2:=hq.cell 2;have f0:=hq.free 0;have f1:=hq.free 1;have f2:=hq.free 2
     have hc:=HBn.out.ext hx;have l0:=hc.cell 0;have l1:=hc.cell 1;have l2:=hc.cell 2;clear hx hq hc HPu j0 j1 j2 g0 g1 i0 i1 i2
     cases z with
     | false=>
      have HR:Hid (R=(q6R,10)):=η14 (by rw[HGG.out,if_neg (fun h=>by cases h.1)]);go_wp2_with fail
      ((try simp only[Exit.inBlock,Exit.then]);refine bodyPost_ret (v:= .tuple #[.agg #[.string ⟨#[]⟩,.int .i64 0,.bool false],.int .i64 10]) (by rw[q0D rfl];go_simp) rfl ?_)
      exact ⟨by rw[HR.out],((HX3.out.setCell (p:=⟨w.heap.size,0,none⟩) (Nat.le_refl _) _).setCell (p:=⟨w.heap.size,1,none⟩) (Nat.le_refl _) _).setCell (p:=⟨w.heap.size,2,none⟩) (Nat.le_refl _) _⟩
     | true=>
      by_cases hts:T=s
      ·have HR:Hid (R=(⟨X,M,dn⟩,0)):=η14 (by rw[HGG.out,if_pos ⟨rfl,hts⟩])
       have e1:(T==s)=true:=by rw[hts];exact beq_self_eq_true s
       have e2:(T !=s)=false:=by rw[hts];exact bne_self_eq_false s
       clear hts;go_wp2_with fail
       ((try simp only[Exit.inBlock,Exit.then]);refine bodyPost_ret (v:= .tuple #[.agg #[.string ⟨X.toArray⟩,.int .i64 M,.bool dn],.int .i64 0]) (by rw[q0D rfl];go_simp) rfl ?_)
       exact ⟨by rw[HR.out],((HX3.out.setCell (p:=⟨w.heap.size,0,none⟩) (Nat.le_refl _) _).setCell (p:=⟨w.heap.size,1,none⟩) (Nat.le_refl _) _).setCell (p:=⟨w.heap.size,2,none⟩) (Nat.le_refl _) _⟩
      ·have HR:Hid (R=(q6R,10)):=η14 (by rw[HGG.out,if_neg (fun h=>hts h.2)])
       have e1:(T==s)=false:=beq_eq_false_iff_ne.2 hts;have e2:(T !=s)=true:=by simpa using hts
       clear hts;go_wp2_with fail
       ((try simp only[Exit.inBlock,Exit.then]);refine bodyPost_ret (v:= .tuple #[.agg #[.string ⟨#[]⟩,.int .i64 0,.bool false],.int .i64 10]) (by rw[q0D rfl];go_simp) rfl ?_)
       exact ⟨by rw[HR.out],((HX3.out.setCell (p:=⟨w.heap.size,0,none⟩) (Nat.le_refl _) _).setCell (p:=⟨w.heap.size,1,none⟩) (Nat.le_refl _) _).setCell (p:=⟨w.heap.size,2,none⟩) (Nat.le_refl _) _⟩
   ·have d1:decide ((a:Int)<(s.length:Int))=false:=decide_eq_false (by omega)
    have HC0:=HD.out k HM.out.1 hk11 hk2 (.inl (by rw[List.length_drop];have:=HAK.out;omega));rw[←HM.out.2,show 1+k+1=a+1 by have:=HAK.out;omega] at HC0;obtain ⟨X,hX⟩: ∃X,s.drop (a+1)=X:=⟨_,rfl⟩
    obtain ⟨M,hM⟩: ∃M:Int,(m:Int)-1=M:=⟨_,rfl⟩
    rw[hX,hM] at HC0;have HC:=η14 HC0;have q6:IntKind.i64.wrap ((m:Int)-1)=M:=by rw[IntKind.wrap_i64];omega
    have hXl:X.length≤s.length:=by rw[←hX,List.length_drop];omega
    have hX0:X=[]:=by rw[←hX];exact List.drop_eq_nil_of_le (by omega)
    subst hX0;clear HC0 hM hmb hX;have HPu:=η14 (fun W=>q7m ⟨[],M,dn⟩ (by show ([]:List UInt8).length≤9223372036854775807;simp) W);have HGG:=η14 (HG.out _ HC.out);obtain ⟨z,hz⟩: ∃z,q3F ⟨[],M,dn⟩=z:=⟨_,rfl⟩
    obtain ⟨T,hT⟩: ∃T,q4C ⟨[],M,dn⟩=T:=⟨_,rfl⟩
    have hpn:q8X ⟨[],M,dn⟩=if z=true then T else []:=by unfold q8X;rw[hz,hT]
    rw[hpn,hz] at HPu;rw[hz,hT] at HGG;have j0:=HB1.out.cell 0;have j1:=HB1.out.cell 1;have j2:=HB1.out.cell 2;have g0:=HB1.out.free 0;have g1:=HB1.out.free 1;have hbn:=Blk.new (w.alloc (.cells #[.string ⟨#[]⟩,.int .i64 0,.bool false] 67)) 67 #[.string ⟨#[]⟩,.int .i64 M,.bool dn];rw[World.size_alloc] at hbn;have HBn:=η14 hbn;have HBq:=η14 ((Blk.new w 67 #[.string ⟨#[]⟩,.int .i64 0,.bool false]).ext (q0B _ (.cells #[.string ⟨#[]⟩,.int .i64 M,.bool dn] 67)));have HXn:Hid (Ext w ((w.alloc (.cells #[.string ⟨#[]⟩,.int .i64 0,.bool false] 67)).alloc (.cells #[.string ⟨#[]⟩,.int .i64 M,.bool dn] 67))):=η14 (q2I w _ _);clear hbn;have i0:=HBn.out.cell 0;have i1:=HBn.out.cell 1;have i2:=HBn.out.cell 2;clear hz hT hpn;go_wp2_with fail;refine (HPu.out _).mono ?_;rintro e w3 ⟨rfl,hx⟩;have HX3:=η14 (HXn.out.trans hx);have hq:=HBq.out.ext hx;have k0:=hq.cell 0;have k1:=hq.cell 1;have k2:=hq.cell 2;have f0:=hq.free 0;have f1:=hq.free 1;have f2:=hq.free 2
    have hc:=HBn.out.ext hx;have l0:=hc.cell 0;have l1:=hc.cell 1;have l2:=hc.cell 2;clear hx hq hc HPu j0 j1 j2 g0 g1 i0 i1 i2
    cases z with
    | false=>
     have HR:Hid (R=(q6R,10)):=η14 (by rw[HGG.out,if_neg (fun h=>by cases h.1)]);go_wp2_with fail
     ((try simp only[Exit.inBlock,Exit.then]);refine bodyPost_ret (v:= .tuple #[.agg #[.string ⟨#[]⟩,.int .i64 0,.bool false],.int .i64 10]) (by rw[q0D rfl];go_simp) rfl ?_)
     exact ⟨by rw[HR.out],((HX3.out.setCell (p:=⟨w.heap.size,0,none⟩) (Nat.le_refl _) _).setCell (p:=⟨w.heap.size,1,none⟩) (Nat.le_refl _) _).setCell (p:=⟨w.heap.size,2,none⟩) (Nat.le_refl _) _⟩
    | true=>
     by_cases hts:T=s
     ·have HR:Hid (R=(⟨[],M,dn⟩,0)):=η14 (by rw[HGG.out,if_pos ⟨rfl,hts⟩])
      have e1:(T==s)=true:=by rw[hts];exact beq_self_eq_true s
      have e2:(T !=s)=false:=by rw[hts];exact bne_self_eq_false s
      clear hts;go_wp2_with fail
      ((try simp only[Exit.inBlock,Exit.then]);refine bodyPost_ret (v:= .tuple #[.agg #[.string ⟨#[]⟩,.int .i64 M,.bool dn],.int .i64 0]) (by rw[q0D rfl];go_simp) rfl ?_)
      exact ⟨by rw[HR.out],((HX3.out.setCell (p:=⟨w.heap.size,0,none⟩) (Nat.le_refl _) _).setCell (p:=⟨w.heap.size,1,none⟩) (Nat.le_refl _) _).setCell (p:=⟨w.heap.size,2,none⟩) (Nat.le_refl _) _⟩
     ·have HR:Hid (R=(q6R,10)):=η14 (by rw[HGG.out,if_neg (fun h=>hts h.2)])
      have e1:(T==s)=false:=beq_eq_false_iff_ne.2 hts;have e2:(T !=s)=true:=by simpa using hts
      clear hts;go_wp2_with fail
      ((try simp only[Exit.inBlock,Exit.then]);refine bodyPost_ret (v:= .tuple #[.agg #[.string ⟨#[]⟩,.int .i64 0,.bool false],.int .i64 10]) (by rw[q0D rfl];go_simp) rfl ?_)
      exact ⟨by rw[HR.out],((HX3.out.setCell (p:=⟨w.heap.size,0,none⟩) (Nat.le_refl _) _).setCell (p:=⟨w.heap.size,1,none⟩) (Nat.le_refl _) _).setCell (p:=⟨w.heap.size,2,none⟩) (Nat.le_refl _) _⟩
end
end Go.Proofs.YthdekbmdkpcooaaGreatDoor
