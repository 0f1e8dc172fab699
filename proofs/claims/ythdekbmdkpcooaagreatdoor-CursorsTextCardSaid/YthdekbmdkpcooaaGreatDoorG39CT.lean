/- Walks. -/
import Derived.Test.YthdekbmdkpcooaaGreatDoorG25CT
import Derived.Test.YthdekbmdkpcooaaGreatDoorG38CT
set_option linter.unusedVariables false
set_option linter.unusedSimpArgs false
set_option maxRecDepth 100000
set_option maxHeartbeats 3200000
namespace Go.Proofs.YthdekbmdkpcooaaGreatDoor
section
open Go.RowKit
def mapN :List UInt8:=[109,97,112]
def z3n :List UInt8:=[110,101,119]
def y1u (w:World) (g:Nat) (F:Nat→Prop) (σ':DM) (r:Got) (e:Ending) (w':World):Prop:=
 ∃a c,e= .returned (.tuple #[.agg #[.int .i64 r.nx,.int .i64 r.ck,.int .u64 r.sd,.slice a r.L.length c],.int .i64 r.en])∧Grid w' a r.L.length c r.L∧DkS w g F σ' w'
theorem z6X {w:World} {g:Nat} {F:Nat→Prop} {σ:DM} (h:Dk w g F σ) (hm:q1W σ mapN=(0,4)):
  Calls Tryz.prog 176 #[.pointer (some ⟨g,0,none⟩)] w (y1u w g F σ ⟨0,0,0,[],4⟩):=by
 have H:=Lib.hid h;have HS:=Lib.hid (q6q (h.ext (q0B w (.cells #[.int .i64 0,.int .i64 0,.int .u64 0,.slice none 0 0] 148))) mapN (by decide));rw[hm] at HS;clear h hm;have hb:=Blk.new w 148 #[.int .i64 0,.int .i64 0,.int .u64 0,.slice none 0 0];have HB:=Lib.hid hb;have d0:=hb.cell 0;have d1:=hb.cell 1;have d2:=hb.cell 2;have d3:=hb.cell 3;have z0:=hb.free 0;have z1:=hb.free 1;have z2:=hb.free 2;have z3:=hb.free 3;clear hb;go_enter Tryz.func176,Tryz.ntmps176;go_wp2_with fail;refine HS.out.mono ?_;rintro e w' ⟨rfl,rfl⟩;go_wp2_with fail
 ((try simp only[Exit.inBlock,Exit.then]);refine bodyPost_ret (v:= .tuple #[.agg #[_,_,_,_],_]) (by rw[results_cell_tmp rfl];go_simp;exact ⟨⟨rfl,rfl,rfl,rfl⟩,rfl⟩) rfl ?_)
 exact ⟨none,0,rfl,Grid.empty _,(DkS.refl H.out).ext (q0B _ _)⟩
theorem z4t {w:World} {g:Nat} {F:Nat→Prop} {σ:DM} (h:Dk w g F σ) {f:FM} (hf:q0H FM.nm mapN σ.L=some f) (hup:σ.down=false):
  Calls Tryz.prog 176 #[.pointer (some ⟨g,0,none⟩)] w (y1u w g F (q2N σ) (q2y f.da)):=by
 have hlt: ∀i,F i→i<w.heap.size:=by obtain ⟨_,_,_,_,_,_,h⟩:=h;exact h
 have hle:f.da.length≤1048576:=by
  have h1:f.da.length≤q0P σ.L:=q7C (q0O hf).1;have h2:=h.1.used;have h3:=h.1.cap1;omega
 obtain ⟨S,hS⟩: ∃S,f.da=S:=⟨_,rfl⟩
 have hs1:q1W σ mapN=((S.length:Int),0):=by unfold q1W;rw[if_neg (by rw[hup];decide),hf,←hS]
 have hs2:q1b σ mapN 0 (S.length:Int)=(S,0,q2N σ):=by
  unfold q1b;rw[if_neg (by rw[hup];decide),hf];simp only;rw[hS,if_pos (by omega)];simp
 rw[hS] at hle⊢;have HS:=Lib.hid (q6q (h.ext (q0B w (.cells #[.int .i64 0,.int .i64 0,.int .u64 0,.slice none 0 0] 148))) mapN (by decide));rw[hs1] at HS;have HR:=Lib.hid (z2g (h.ext (q0B w (.cells #[.int .i64 0,.int .i64 0,.int .u64 0,.slice none 0 0] 148))) mapN 0 (S.length:Int) (by decide) (by decide) (by decide) (by omega) (by omega));rw[hs2] at HR;have HL:=Lib.hid hlt;clear h hf hup hs1 hs2 hS hlt;have hb:=Blk.new w 148 #[.int .i64 0,.int .i64 0,.int .u64 0,.slice none 0 0];have HB:=Lib.hid hb;have d0:=hb.cell 0;have d1:=hb.cell 1;have d2:=hb.cell 2;have d3:=hb.cell 3;have z0:=hb.free 0;have z1:=hb.free 1;have z2:=hb.free 2;have z3:=hb.free 3;clear hb;go_enter Tryz.func176,Tryz.ntmps176;go_wp2_with fail;refine HS.out.mono ?_;rintro e w' ⟨rfl,rfl⟩;go_wp2_with fail;refine HR.out.mono ?_;rintro e w1 ⟨rfl,hd⟩;have HD:=Lib.hid hd;have HB1:=Lib.hid (HB.out.same (hd.off.block _ HB.out.lt fun hf=>by have:=HL.out _ hf;omega))
 have HZ1:Hid (w.heap.size<w1.heap.size):=Lib.hid HB1.out.lt;clear hd d0 d1 d2 d3 z0 z1 z2 z3;go_wp2_with fail;refine (y0h S w1 (by omega)).mono ?_;rintro e w2 ⟨v,vs,rfl,hog,hx⟩;obtain ⟨a,c,rfl⟩:=hog.own.slice;have HOg:=Lib.hid hog;have HX:=Lib.hid hx;have hb2:=HB1.out.ext hx;have d0:=hb2.cell 0;have d1:=hb2.cell 1;have d2:=hb2.cell 2;have d3:=hb2.cell 3;have z0:=hb2.free 0;have z1:=hb2.free 1;have z2:=hb2.free 2;have z3:=hb2.free 3;clear hog hx hb2;generalize q2y S=G at*;go_wp2_with fail
 ((try simp only[Exit.inBlock,Exit.then]);refine bodyPost_ret (v:= .tuple #[.agg #[_,_,_,_],_]) (by rw[results_cell_tmp rfl];go_simp;exact ⟨⟨rfl,rfl,rfl,rfl⟩,rfl⟩) rfl ?_)
 obtain ⟨a2,c2,e2,hg⟩:=((((HOg.out.setBelow HZ1.out 0 (.int .i64 G.nx)).setBelow HZ1.out 1 (.int .i64 G.ck)).setBelow HZ1.out 2 (.int .u64 G.sd)).setBelow HZ1.out 3 (.slice a G.L.length c)).grid
 cases e2;refine ⟨a,c,rfl,hg,DkS.box (q0B w (.cells #[.int .i64 0,.int .i64 0,.int .u64 0,.slice none 0 0] 148)) (HD.out.ext HX.out) HL.out (by simp[World.setCell]) rfl rfl rfl fun i hi hn=>?_⟩;have hne:i≠w.heap.size:=fun e=>hn (by rw[World.size_alloc];omega)
 rw[q0L _ _ hne,q0L _ _ hne,q0L _ _ hne,q0L _ _ hne]
end
section
open Go.RowKit
end
section
open Go.RowKit
def z0w (σ:DM):Int:=if σ.down then 61 else 0
theorem z3o :z3n≠mapN:=by decide
variable {σ :DM} {o:Option (List UInt8)}
end
section
open Go.RowKit
theorem y1G {w:World} {g:Nat} {F:Nat→Prop} {σ:DM} (h:Dk w g F σ):Calls Tryz.prog 180 #[.pointer (some ⟨g,0,none⟩)] w fun e w'=>e= .returned (.int .i64 (z0w σ))∧w=w':=by
 have HS:=Lib.hid (q6q h [] (by decide));have hc: ∃z c,q1W σ []=(z,c)∧((c=61∧z0w σ=61)∨(c=4∧z0w σ=0)∨(c=0∧z0w σ=0)):=by
  unfold q1W z0w
  split
  ·exact ⟨_,_,rfl,.inl ⟨rfl,rfl⟩⟩
  ·split
   ·exact ⟨_,_,rfl,.inr (.inl ⟨rfl,rfl⟩)⟩
   ·exact ⟨_,_,rfl,.inr (.inr ⟨rfl,rfl⟩)⟩
 obtain ⟨z,c,hz,hc⟩:=hc;rw[hz] at HS;clear h hz;rcases hc with ⟨rfl,ho⟩|⟨rfl,ho⟩|⟨rfl,ho⟩<;>rw[ho]<;>clear ho
 all_goals
  go_enter Tryz.func180,Tryz.ntmps180;go_wp2_with fail;refine HS.out.mono ?_;rintro e w' ⟨rfl,rfl⟩;go_wp2_with fail;go_ret;exact ⟨rfl,rfl⟩
end
end Go.Proofs.YthdekbmdkpcooaaGreatDoor
