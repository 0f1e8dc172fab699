/- Walks. -/
import Derived.Test.YtjjfiejoeelndaaGreatDoorG21Bp
import Derived.Test.YtjjfiejoeelndaaGreatDoorG16Bp
set_option linter.unusedVariables false
set_option linter.unusedSimpArgs false
set_option maxRecDepth 100000
set_option maxHeartbeats 6400000
namespace Go.Proofs.YtjjfiejoeelndaaGreatDoor
theorem η22 {p:Prop} (h:p):Go.RowKit.Hid p:=Lib.hid h
open Go.RowKit
theorem y2e {w:World} {B:Nat} {e:TypeId} {v:Value} {xs:List Int} (h:w.ownsRow B e 1 v xs.length (xs.map (Value.int .u64))): ∃ao cap,v= .slice ao xs.length cap∧Us w ao xs.length cap xs:=by
 obtain ⟨ao,cap,rfl,h1,h2,h3,h4⟩:=(Own.of_row h).rd;exact ⟨ao,cap,rfl,rfl,h1,h2,h3,h4⟩
theorem Us.at {w:World} {ao:Option Addr} {n cap:Nat} {xs:List Int} (h:Us w ao n cap xs) {j:Nat} (hj:j<n): ∃b off,ao=some ⟨b,off,none⟩∧w.cell? ⟨b,off+j,none⟩=some (.int .u64 (xs.getD j 0)):=by
 have hl:=h.len;have k:(xs.map (Value.int .u64))[j]? =some (.int .u64 (xs.getD j 0)):=by
  rw[List.getElem?_map,List.getElem?_eq_getElem (by omega)];simp[List.getD,List.getElem?_eq_getElem (show j<xs.length by omega)]
 obtain ⟨b,off,rfl,h0⟩:=h.rd _ _ k;exact ⟨b,off,rfl,h0⟩
theorem Tryz.infoU64 :(Tryz.prog.info? 23).map (fun i=>(i.zero,i.size,i.bytes))=some (some (.int .u64 0),1,8):=by kernel_rfl
theorem z9p {ao:Option Addr} {n cap:Nat} {L:List En} (rate:Nat) (w:World) (hx:Ens w ao n cap L) (hn:n≤1000):
  Calls Tryz.prog 202 #[.slice ao n cap,.float .f64 rate] w fun r w'=> ∃s:List UInt8,r= .returned (.string ⟨s.toArray⟩)∧128≤s.length∧s.length≤64*(n/20+2)∧Ext w w':=by
 have Hx:=η22 hx;have b1:=hx.fits;have b2:=hx.bound;have HLen:=η22 hx.len;clear hx;go_enter Tryz.func202,Tryz.ntmps202;go_wp2_with fail
 go_loopw [5,12] (fun v i W=> ∃(k m:Nat) (M:List Int),k≤n∧i= .int .i64 (k:Int)∧M.length=m∧m≤k∧W.ownsRow w.heap.size 23 1 v m (M.map (Value.int .u64))∧Ext w W) (fun _ i _=>n-(intOf i).toNat)
 case atStart=>exact ⟨0,0,[],Nat.zero_le _,rfl,rfl,Nat.le_refl _,World.ownsRow_nil _ _ _ _,Ext.refl _⟩
 case round=>
  obtain ⟨k,m,M,hk,rfl,hMl,hM,hrow,hb⟩:=hrel;have HRow:=η22 hrow;have HBk:=η22 hb;have HMl:=η22 hMl;obtain ⟨va,vc,rfl,hus⟩:=y2e (by rw[hMl];exact hrow);rw[hMl] at hus HRow;have HUs:=η22 hus;have HBs:=η22 (hb:Ext w wr).size;rw[hMl];clear hMl;by_cases hlt:k<n
  ·have hd:decide ((k:Int)<(n:Int))=true:=by simp;omega
   obtain ⟨b,off,rfl,c0,c1,c2⟩:=(Hx.out.ext hb).at hlt;generalize L.getD k en0=z at*;obtain ⟨z1,z2,z3⟩:=z;have u0:=q0E c0;have u1:=q0E c1;have u2:=q0E c2;clear hrow hb hus;have n0:=q0E (show (wr.alloc (.cells #[.int .u64 z1,.int .i64 z2,.int .i64 z3] 108)).cell? ⟨wr.heap.size,0,none⟩=some (.int .u64 z1) from (Blk.new wr 108 #[.int .u64 z1,.int .i64 z2,.int .i64 z3]).cell 0);have HE0:=η22 (q0D wr (.cells #[.int .u64 z1,.int .i64 z2,.int .i64 z3] 108));by_cases hM0:m=0
   ·have hd0:((m:Int)==0)=true:=by rw[hM0];rfl
    clear hM0;go_wp2_with fail;refine q0F (by kernel_rfl) (by kernel_rfl) ?_
    repeat (go_big_quiet_step (fail))
    refine wpQuiet_nil ?_;intro w2 hw2;have HE1:=η22 (HE0.out.trans hw2);have HLit:Hid (Rd (w2.alloc (.cells #[.int .u64 z1] 23)) (some ⟨w2.heap.size,0,none⟩) [.int .u64 z1]):=η22 (Rd.lit w2 #[.int .u64 z1] 23);have e0:w2.cell? ⟨wr.heap.size,0,none⟩=some (.int .u64 z1):=n0 ⟨w2,hw2⟩;have HW2:=η22 HE1.out.size;clear hw2 n0
    go_wp2_with (at_builtin;refine q0K rfl (.tmp 30) (.tmp 33) 312 rfl w.heap.size 23 _ 1 8 Tryz.underlying312 Tryz.infoU64 (by decide) (by decide) _ m (M.map (Value.int .u64)) rfl (q0J (q0J HRow.out HE1.out) (q0D _ _)) _ 1 1 [.int .u64 z1] rfl rfl (fun h=>by cases h) HLit.out (by simp[Value.oneCell']) (by unfold maxLen;omega) (by omega) (by have:=HBs.out;have:=HW2.out;simp;omega) ?_;intro v2 w5 hown hgrow hat;obtain ⟨a2,k2,rfl⟩:=q0G hown;have HO5:=η22 hown;have HB5:=η22 (q0p ((HBk.out.trans HE1.out).alloc _) (Own.of_row (q0J (q0J HRow.out HE1.out) (q0D _ _))) hgrow (by have:=HBs.out;have:=HW2.out;simp;omega));clear hown hgrow hat)
    go_roundw
    case rel=>exact ⟨k+1,m+1,M++[z1],hlt,by go_num,by simp;exact HMl.out,by omega,by rw[List.map_append];exact HO5.out,HB5.out⟩
    case measure=>simp[intOf];omega
   ·have hd0:((m:Int)==0)=false:=by simpa using hM0
    obtain ⟨j,hj⟩: ∃j,m=j+1:=⟨m-1,by omega⟩
    have e1:IntKind.i64.wrap ((m:Int)-1)=(j:Int):=by rw[IntKind.wrap_i64];omega
    obtain ⟨b',off',rfl,d0⟩:=HUs.out.at (j:=j) (by omega);have d1:=q0E (q0A HE0.out d0);by_cases hz:M.getD j 0=z1
    ·have hq:(M.getD j 0 !=z1)=false:=by simpa using hz
     generalize M.getD j 0=y at*;have hjm:j<m:=by omega
     clear hj;go_wp2_with fail;refine q0F (by kernel_rfl) (by kernel_rfl) ?_
     repeat (go_big_quiet_step (fail))
     refine wpQuiet_nil ?_;intro w2 hw2;have HE1:=η22 (HE0.out.trans hw2);have HLit:Hid (Rd (w2.alloc (.cells #[.int .u64 z1] 23)) (some ⟨w2.heap.size,0,none⟩) [.int .u64 z1]):=η22 (Rd.lit w2 #[.int .u64 z1] 23);have e0:w2.cell? ⟨wr.heap.size,0,none⟩=some (.int .u64 z1):=n0 ⟨w2,hw2⟩;have HW2:=η22 HE1.out.size;clear hw2 n0;go_wp2_with fail
     go_roundw
     case rel=>exact ⟨k+1,m,M,hlt,by go_num,HMl.out,by omega,q0J HRow.out HE1.out,HBk.out.trans HE1.out⟩
     case measure=>simp[intOf];omega
    ·have hq:(M.getD j 0 !=z1)=true:=by simpa using hz
     generalize M.getD j 0=y at*;have hjm:j<m:=by omega
     clear hj;go_wp2_with fail;refine q0F (by kernel_rfl) (by kernel_rfl) ?_
     repeat (go_big_quiet_step (fail))
     refine wpQuiet_nil ?_;intro w2 hw2;have HE1:=η22 (HE0.out.trans hw2);have HLit:Hid (Rd (w2.alloc (.cells #[.int .u64 z1] 23)) (some ⟨w2.heap.size,0,none⟩) [.int .u64 z1]):=η22 (Rd.lit w2 #[.int .u64 z1] 23);have e0:w2.cell? ⟨wr.heap.size,0,none⟩=some (.int .u64 z1):=n0 ⟨w2,hw2⟩;have HW2:=η22 HE1.out.size;clear hw2 n0
     go_wp2_with (at_builtin;refine q0K rfl (.tmp 30) (.tmp 33) 312 rfl w.heap.size 23 _ 1 8 Tryz.underlying312 Tryz.infoU64 (by decide) (by decide) _ m (M.map (Value.int .u64)) rfl (q0J (q0J HRow.out HE1.out) (q0D _ _)) _ 1 1 [.int .u64 z1] rfl rfl (fun h=>by cases h) HLit.out (by simp[Value.oneCell']) (by unfold maxLen;omega) (by omega) (by have:=HBs.out;have:=HW2.out;simp;omega) ?_;intro v2 w5 hown hgrow hat;obtain ⟨a2,k2,rfl⟩:=q0G hown;have HO5:=η22 hown;have HB5:=η22 (q0p ((HBk.out.trans HE1.out).alloc _) (Own.of_row (q0J (q0J HRow.out HE1.out) (q0D _ _))) hgrow (by have:=HBs.out;have:=HW2.out;simp;omega));clear hown hgrow hat)
     go_roundw
     case rel=>exact ⟨k+1,m+1,M++[z1],hlt,by go_num,by simp;exact HMl.out,by omega,by rw[List.map_append];exact HO5.out,HB5.out⟩
     case measure=>simp[intOf];omega
  ·have hd:decide ((k:Int)<(n:Int))=false:=by simp;omega
   have HPr:=η22 (fun W=>y0U W rate);have HPg:=η22 (fun W (p:Nat) h1 h2=>y1b W m p (by omega) h1 h2);clear hrow hb hus;go_wp2_with fail;refine (HPr.out _).mono ?_;rintro e w1 ⟨p,rfl,p1,p16,rfl⟩;go_wp2_with fail;refine (HPg.out _ p p1 p16).mono ?_;rintro e w1 ⟨g,rfl,g1,g9,rfl⟩;have g50:g≤51:=by omega
   have e1:IntKind.i64.wrap ((g:Int)*60)=(g:Int)*60:=by rw[IntKind.wrap_i64];omega
   have e2:IntKind.i64.wrap ((g:Int)*60*8)=((480*g:Nat):Int):=by rw[IntKind.wrap_i64];omega
   have HMk:=η22 (y1d p (480*g) (60*g) wr HUs.out (by omega) p16 (by omega) (by omega) (by omega));obtain ⟨B,hB⟩: ∃B:Int,((480*g:Nat):Int)=B:=⟨_,rfl⟩
   rw[hB] at e2 HMk;have G9:Hid (g≤n/20+1):=η22 (by omega);clear hB HPr HPg;go_wp2_with fail;refine HMk.out.mono ?_;rintro e w3 ⟨bs,rfl,hbs,hb3⟩;have HB3:=η22 (HBk.out.trans hb3);have HPu:=η22 (y3O bs p g w3 hbs g1 (by omega) p1 p16);clear hbs hb3 HMk;go_wp2_with fail;refine HPu.out.mono ?_;rintro e w4 ⟨s,rfl,hs,hb4⟩;have HB4:=η22 (HB3.out.trans hb4);have HS:=η22 hs;clear hs hb4;go_wp2_with fail;go_ret;have h1:=HS.out;have h2:=G9.out;exact ⟨s,rfl,by omega,by omega,HB4.out⟩
end Go.Proofs.YtjjfiejoeelndaaGreatDoor
