/- Walks: an index without orphans is cleaned (nothing is deleted). Walks: the manifest of a disk with a log is loaded. Walks: the index that lies on a disk (rebuild.lying). Walks: an index is made anew on a disk with a log: the manifest goes, an empty index is opened, its orphans are deleted. Walks: an index of no table is cleaned: what an index that is none left over goes. Walks: the index of a log: the one that lies on the disk, or one built anew (rebuild.Open). The first opening of an index on a disk with a log that holds nothing; a log with one record (towards law25's example). An index is let go, but its blocks are kept in sight (what waits in it can still be asked). Walks: law25's example (whole). Walks: rebuild.Open of a disk or a log that is none, or of a disk that is down. Walks: law RebuildNone. Walks: law RebuildForeign. -/
import Derived.Test.YtmajfklnagdlpaaGreatDoorG48Bs
import Derived.Test.YtmajfklnagdlpaaGreatDoorG47Bs
import Derived.Test.YtmajfklnagdlpaaGreatDoorG44Bs
import Derived.BigRegion
import Derived.Test.YtmajfklnagdlpaaGreatDoorG31Bs
import Derived.Test.YtmajfklnagdlpaaGreatDoorG42Bs
import Derived.Test.YtmajfklnagdlpaaGreatDoorG45Bs
set_option linter.unusedVariables false
set_option linter.unusedSimpArgs false
namespace Go.Proofs.YtmajfklnagdlpaaGreatDoor
open Go.RowKit
set_option maxRecDepth 100000
set_option linter.unusedVariables false
set_option maxHeartbeats 6400000
section
variable {wb w W W':World} {g gx gl rate:Nat} {m:Man} {ws:List En} {c s:Int} {u cnt:Nat} {B:List En} {C C':Cks} {sure:Int} {K K':Nat→Prop} {st:IxSt} {σ:DM} {φ:Fls}
theorem PInv.cleanL (h:PInv st σ c s φ u cnt B):{σ with L:=σ.L.filter fun f=>!q1J st.m.L.flatten f.nm}=σ:=by
  have h1:=h.noOrph
  unfold q1M at h1
  rw[List.filter_map,List.map_eq_nil_iff,List.filter_eq_nil_iff] at h1
  have h2:(σ.L.filter fun f=>!q1J st.m.L.flatten f.nm)=σ.L:=List.filter_eq_self.2 fun f hf=>by
    have:=h1 f hf
    simp only[Function.comp] at this
    simpa using this
  rw[h2]
theorem IXG.clean (h:IXG wb W g gx gl rate m ws c s u cnt B C sure K) {ao:Option Addr} {cap:Nat} (hG:Grid W ao m.L.length cap m.L) (nx ck sd:Int):
    Calls Tryz.prog 58 #[.pointer (some ⟨g,0,none⟩),.agg #[.int .i64 nx,.int .i64 ck,.int .u64 sd,.slice ao m.L.length cap]] W fun e w'=>e= .returned (.int .i64 0)∧IXG wb w' g gx gl rate m ws c s u cnt B C sure K∧Stay K W w':=by
  obtain ⟨st,σ,φ,gv,rfl,rfl,h3,h4,h5,⟨h6,h6m⟩,h7,h8⟩:=h
  have hb:=Man.bounds h6.man
  have hup:σ.down=false:=h6.fl.up
  have hfine:σ.fail=false:=by obtain ⟨l,hpl,_⟩:=h6.fl;exact hpl.fine
  refine (h5.disk (σ1:=σ) (R:=fun e=>e= .returned (.int .i64 0)) fun F hd=>?_).mono ?_
  · have hc:=z3v hd hup hfine h6.shortN (nx:=nx) (ck:=ck) (sd:=sd) hG (by have:=hb.2.1;omega)
    rw[h6.cleanL] at hc
    exact hc
  · rintro e w' ⟨he,k1,k2⟩
    exact ⟨he,⟨st,σ,φ,gv,rfl,rfl,h3,h4,k1,⟨h6,h6m⟩,⟨h7.1.same fun i hi=>k2 i (.inr hi),h7.2⟩,h8⟩,fun i hi=>k2 i (.inl hi)⟩
end
end Go.Proofs.YtmajfklnagdlpaaGreatDoor
namespace Go.Proofs.YtmajfklnagdlpaaGreatDoor
open Go.RowKit
set_option maxRecDepth 100000
set_option linter.unusedVariables false
set_option maxHeartbeats 6400000
section
variable {wb w W W':World} {g gx gl rate:Nat} {m:Man} {ws:List En} {c s:Int} {u cnt:Nat} {B:List En} {C C':Cks} {sure:Int} {K K':Nat→Prop} {st:IxSt} {σ:DM} {φ:Fls}
theorem DKR.man (h:DKR wb W g gl m c s u cnt B C sure K):m.ok:=by obtain ⟨st,σ,φ,gv,F,rfl,hw,hF,⟨h6,h6m,h6c⟩,h7,h8⟩:=h;exact h6.man
theorem DKR.klt (h:DKR wb W g gl m c s u cnt B C sure K): ∀i,K i→i<W.heap.size:=by obtain ⟨st,σ,φ,gv,F,rfl,hw,hF,⟨h6,h6m,h6c⟩,h7,h8⟩:=h;exact fun i hi=>(hF.k i (.inl hi)).1
theorem DKR.grow (h:DKR wb W g gl m c s u cnt B C sure K) (k:Ext W W'):DKR wb W' g gl m c s u cnt B C sure K:=by
  obtain ⟨st,σ,φ,gv,F,rfl,hw,hF,h6,h7,h8⟩:=h
  exact ⟨st,σ,φ,gv,F,rfl,hw,hF.grow k,h6,⟨h7.1.ext k,h7.2⟩,h8⟩
theorem DKR.kExt (h:DKR wb W g gl m c s u cnt B C sure K) (k:Ext W W'):Stay K W W':=fun i hi=>k.block i (h.klt i hi)
def Man.cut (m:Man):Man:=⟨m.nx,m.ck,m.sd,q0N m.L⟩
theorem Man.cut_S {m:Man} (h:m.ok):m.cut.S=m.S:=by
  show (q1s m.nx m.ck m.sd (q0N m.L)).1=_
  rw[q8u h.1];rfl
theorem DKR.cut (h:DKR wb W g gl m c s u cnt B C sure K):DKR wb W g gl m.cut c s u cnt B C sure K:=by
  obtain ⟨st,σ,φ,gv,F,rfl,hw,hF,⟨h6,h6m,h6c⟩,h7,h8⟩:=h
  have hf:st.m.cut.L.flatten=st.m.L.flatten:=q1F _
  refine ⟨{st with m:=st.m.cut},σ,φ,gv,F,rfl,hw,hF,⟨⟨h6.fl,⟨q4S h6.man.1,h6.man.2⟩,fun n hn=>h6.full n (by rw[←hf];exact hn),fun n e he=>?_,fun nm hnm=>?_,h6.okw,h6.okB,h6.mem⟩,?_,h6c⟩,h7,h8⟩
  · show n∈st.m.cut.L.flatten∧_
    rw[hf];exact h6.tb n e he
  · show nm=mapN∨(∃n∈st.m.cut.L.flatten,_)∨_
    rw[hf];exact h6.only nm hnm
  · rcases h6m with ⟨h,hp⟩|⟨h1,h2,h3,h4⟩
    · exact .inl ⟨by rw[Man.cut_S h6.man];exact h,hp⟩
    · exact .inr ⟨h1,h2,h3,by show q0N st.m.L=[];rw[h4];rfl⟩
theorem DKR.load (h:DKR wb W g gl m c s u cnt B C sure K):Calls Tryz.prog 127 #[.pointer (some ⟨g,0,none⟩)] W fun e w'=>
    ((∃ao cap,e= .returned (.tuple #[.agg #[.int .i64 m.nx,.int .i64 m.ck,.int .u64 m.sd,.slice ao (q0N m.L).length cap],.int .i64 0])∧Grid w' ao (q0N m.L).length cap (q0N m.L)∧0<m.nx)∨
      (∃ao cap,e= .returned (.tuple #[.agg #[.int .i64 0,.int .i64 0,.int .u64 0,.slice ao 0 cap],.int .i64 4])∧m.nx=0∧m.ck=0∧m.L=[]))∧
    DKR wb w' g gl m c s u cnt B C sure K∧Stay K W w':=by
  obtain ⟨st,σ,φ,gv,F,rfl,hw,hF,⟨h6,h6m,h6c⟩,h7,h8⟩:=h
  obtain ⟨l,hpl,hord,hfun,hus,hln⟩:=h6.fl
  cases hf:q0E FM.nm mapN σ.L with
  | none=>
    have h0:φ mapN=none:=by rw[←hfun,hpl.find,hf];rfl
    rcases h6m with ⟨h,hp⟩|⟨h1,h2,h3,h4⟩
    · rw[h0] at h;cases h
    · refine (z4G hF.d (by unfold q1B;rw[if_neg (by rw[hpl.up];decide),hf])).mono ?_
      rintro e w' ⟨a,cc,rfl,hg,hd⟩
      obtain ⟨k1,k2⟩:=hF.disk hd
      exact ⟨.inr ⟨a,cc,rfl,h2,h3,h4⟩,⟨st,σ,φ,gv,_,rfl,hw,k1,⟨h6,.inr ⟨h1,h2,h3,h4⟩,h6c⟩,⟨h7.1.same fun i hi=>k2 i (.inr hi),h7.2⟩,h8⟩,fun i hi=>k2 i (.inl hi)⟩
  | some f=>
    have h0:φ mapN=some f.da:=by rw[←hfun,hpl.find,hf];rfl
    rcases h6m with ⟨h,hp⟩|⟨h1,h2,h3,h4⟩
    · have hda:f.da=st.m.S:=by rw[h0] at h;injection h
      have hgot:q2m f.da=⟨st.m.nx,st.m.ck,st.m.sd,q0N st.m.L,0⟩:=by
        rw[hda]
        show q2m (q1s st.m.nx st.m.ck st.m.sd st.m.L).1=_
        rw[q7n h6.man.1]
        exact z5X h6.man.1 h6.man.2.1 h6.man.2.2
      refine (z3L hF.d hf hpl.up).mono ?_
      rw[hgot]
      rintro e w' ⟨a,cc,rfl,hg,hd⟩
      obtain ⟨k1,k2⟩:=hF.disk hd
      have h6':PInv st (q3H σ) c s φ u cnt B:=⟨Fl.tells 1 h6.fl,h6.man,h6.full,h6.tb,h6.only,h6.okw,h6.okB,h6.mem⟩
      exact ⟨.inl ⟨a,cc,rfl,hg,hp⟩,⟨st,q3H σ,φ,gv,_,rfl,hw,k1,⟨h6',.inl ⟨h,hp⟩,h6c⟩,⟨h7.1.same fun i hi=>k2 i (.inr hi),h7.2⟩,h8⟩,fun i hi=>k2 i (.inl hi)⟩
    · rw[h0] at h1;cases h1
end
end Go.Proofs.YtmajfklnagdlpaaGreatDoor
namespace Go.Proofs.YtmajfklnagdlpaaGreatDoor
open Go.RowKit
set_option maxRecDepth 100000
set_option linter.unusedVariables false
set_option maxHeartbeats 6400000
section
variable {wb w W W':World} {g gx gl:Nat} {m:Man} {ws:List En} {c s:Int} {u cnt:Nat} {B:List En} {C C':Cks} {sure:Int} {K K':Nat→Prop} {st:IxSt} {σ:DM} {φ:Fls}
theorem DKR.ends (h:DKR wb W g gl m c s u cnt B C sure K):Calls Tryz.prog 50 #[.pointer (some ⟨gl,0,none⟩)] W fun e w'=>e= .returned (.int .i64 (q3J C))∧Ext W w':=by
  obtain ⟨st,σ,φ,gv,F,h1,hw,hF,h6,h7,h8⟩:=h
  exact (z5V h7.1 h7.2).mono fun e w' ⟨h,k⟩=>⟨h,k▸Ext.refl _⟩
def LyR (wb W:World) (g gl:Nat) (rate:Nat) (m:Man) (c s:Int) (u cnt:Nat) (B:List En) (C:Cks) (sure:Int) (K:Nat→Prop) (sd:Int) (e:Ending) (w':World):Prop:=
  ((∃gx B2,e= .returned (.tuple #[.pointer (some ⟨gx,0,none⟩),.int .i64 0])∧IXG wb w' g gx gl rate m.cut [] c s u cnt B2 C sure K∧(∀x,x∈B↔x∈B2)∧m.sd=sd∧m.ck≤q3J C∧0<m.nx)∨
    (∃n:Int,e= .returned (.tuple #[.pointer none,.int .i64 n])∧(n=4∨n=90)∧DKR wb w' g gl m c s u cnt B C sure K∧((m.nx=0∧m.ck=0∧m.L=[])∨m.sd≠sd∨q3J C<m.ck)))∧Stay K W w'
theorem z6w (h:DKR wb w g gl m c s u cnt B C sure K) (hcn:m.L.flatten.length≤cnt) (sd:Int) (rate:Nat):
    Calls Tryz.prog 56 #[.pointer (some ⟨g,0,none⟩),.pointer (some ⟨gl,0,none⟩),.int .u64 sd,.float .f64 rate] w (LyR wb w g gl rate m c s u cnt B C sure K sd):=by
  have HLo:=Lib.hid h.load
  clear h
  go_enter Tryz.func56,Tryz.ntmps56
  go_wp2_with fail
  refine HLo.out.mono ?_
  rintro e w1 ⟨hl,hd,hs⟩
  clear HLo
  have HD:=Lib.hid hd;have HS:=Lib.hid hs
  rcases hl with ⟨ao,cp,rfl,hg,hpos⟩|⟨ao,cp,rfl,z⟩
  · have HG:=Lib.hid hg
    have hx:=q0C w1 (.cells #[.int .i64 m.nx,.int .i64 m.ck,.int .u64 m.sd,.slice ao (q0N m.L).length cp] 45)
    have hb:=Blk.new w1 45 #[.int .i64 m.nx,.int .i64 m.ck,.int .u64 m.sd,.slice ao (q0N m.L).length cp]
    have HD2:=Lib.hid (hd.grow hx)
    have HS2:=Lib.hid (hs.trans (hd.kExt hx))
    have HG2:=Lib.hid (hg.ext hx)
    have HB2:=Lib.hid hb
    clear hd hs hg hx hb
    go_wp2_with fail
    generalize w1.alloc (.cells #[.int .i64 m.nx,.int .i64 m.ck,.int .u64 m.sd,.slice ao (q0N m.L).length cp] 45)=w2 at*
    generalize w1.heap.size=q at*
    have c0:w2.cell? ⟨q,0,none⟩=some (.int .i64 m.nx):=HB2.out.cell 0
    have c1:w2.cell? ⟨q,1,none⟩=some (.int .i64 m.ck):=HB2.out.cell 1
    have c2:w2.cell? ⟨q,2,none⟩=some (.int .u64 m.sd):=HB2.out.cell 2
    have c3:w2.cell? ⟨q,3,none⟩=some (.slice ao (q0N m.L).length cp):=HB2.out.cell 3
    have u0:=q0F c0;have u1:=q0F c1;have u2:=q0F c2;have u3:=q0F c3
    have HE:=Lib.hid (fun W (k:Ext w2 W)=>(HD2.out.grow k).ends)
    by_cases hsd:m.sd=sd
    · subst hsd
      by_cases hck:q3J C<m.ck
      · have hdk:decide (q3J C<m.ck)=true:=decide_eq_true hck
        refine q0D (by kernel_rfl) (by kernel_rfl) ?_
        repeat (go_big_quiet_step (fail))
        go_big_quiet_step (exact Calls.quiet_ext (HE.out _ (ExtOf.h _)))
        repeat (go_big_quiet_step (fail))
        refine wpQuiet_nil ?_
        intro w3 hw
        have HD3:=Lib.hid (HD2.out.grow hw);have HS3:=Lib.hid (HS2.out.trans (HD2.out.kExt hw))
        have HCk:=Lib.hid hck
        clear hw hck c0 c1 c2 c3 u0 u1 u2 u3
        go_wp2_with fail
        go_ret2
        exact ⟨.inr ⟨90,rfl,.inr rfl,HD3.out,.inr (.inr HCk.out)⟩,HS3.out⟩
      · have hdk:decide (q3J C<m.ck)=false:=decide_eq_false hck
        refine q0D (by kernel_rfl) (by kernel_rfl) ?_
        repeat (go_big_quiet_step (fail))
        go_big_quiet_step (exact Calls.quiet_ext (HE.out _ (ExtOf.h _)))
        repeat (go_big_quiet_step (fail))
        refine wpQuiet_nil ?_
        intro w3 hw
        have HD3:=Lib.hid (HD2.out.grow hw);have HS3:=Lib.hid (HS2.out.trans (HD2.out.kExt hw))
        have HG3:=Lib.hid (HG2.out.ext hw)
        have HO:=Lib.hid (HD3.out.cut.iopen (ao:=ao) (cap:=cp) HG3.out (by show (q0N m.L).flatten.length≤cnt;rw[q1F];exact hcn) rate)
        have hb3:=HB2.out.ext hw
        have c0':w3.cell? ⟨q,0,none⟩=some (.int .i64 m.nx):=hb3.cell 0
        have c1':w3.cell? ⟨q,1,none⟩=some (.int .i64 m.ck):=hb3.cell 1
        have c2':w3.cell? ⟨q,2,none⟩=some (.int .u64 m.sd):=hb3.cell 2
        have c3':w3.cell? ⟨q,3,none⟩=some (.slice ao (q0N m.L).length cp):=hb3.cell 3
        have HCk:=Lib.hid hck
        clear hw hck c0 c1 c2 c3 u0 u1 u2 u3 hb3
        go_wp2_with fail
        refine HO.out.mono ?_
        rintro e w4 ⟨gx,B2,rfl,hi,hm,hst⟩
        have HI:=Lib.hid hi;have HM:=Lib.hid hm;have HS4:=Lib.hid (HS3.out.trans hst)
        clear hi hm hst HO
        go_wp2_with fail
        go_ret2
        exact ⟨.inl ⟨gx,B2,rfl,HI.out,HM.out,rfl,by have:=HCk.out;omega,hpos⟩,HS4.out⟩
    · have hnb:(m.sd !=sd)=true:=by simpa using hsd
      have HNe:=Lib.hid hsd
      refine q0D (by kernel_rfl) (by kernel_rfl) ?_
      repeat (go_big_quiet_step (fail))
      (try rw[hnb])
      repeat (go_big_quiet_step (fail))
      refine wpQuiet_nil ?_
      intro w3 hw
      have HD3:=Lib.hid (HD2.out.grow hw);have HS3:=Lib.hid (HS2.out.trans (HD2.out.kExt hw))
      clear hw hsd c0 c1 c2 c3 u0 u1 u2 u3
      go_wp2_with fail
      go_ret2
      exact ⟨.inr ⟨90,rfl,.inr rfl,HD3.out,.inr (.inl HNe.out)⟩,HS3.out⟩
  · have HD2:=Lib.hid (hd.grow (q0C w1 (.cells #[.int .i64 0,.int .i64 0,.int .u64 0,.slice ao 0 cp] 45)))
    have HS2:=Lib.hid (hs.trans (hd.kExt (q0C w1 (.cells #[.int .i64 0,.int .i64 0,.int .u64 0,.slice ao 0 cp] 45))))
    have HZ:=Lib.hid z
    clear hd hs z
    go_wp2_with fail
    go_ret2
    exact ⟨.inr ⟨4,rfl,.inl rfl,HD2.out,.inl HZ.out⟩,HS2.out⟩
end
end Go.Proofs.YtmajfklnagdlpaaGreatDoor
namespace Go.Proofs.YtmajfklnagdlpaaGreatDoor
open Go.RowKit
set_option maxRecDepth 100000
set_option linter.unusedVariables false
set_option maxHeartbeats 6400000
theorem q9G (p:List UInt8×List UInt8→Bool) (l:List (List UInt8×List UInt8)):q1K (l.filter p)≤q1K l:=by
  induction l with
  |nil=>exact Nat.le_refl _
  | cons x l ih=>
    have h1: ∀t,q1K (x::t)=q1K [x]+q1K t:=fun t=>by rw[←q0z];rfl
    cases hp:p x with
    |true=>rw[List.filter_cons_of_pos hp,h1,h1 l];omega
    |false=>rw[List.filter_cons_of_neg (by simp[hp]),h1];omega
theorem z3l (q:List UInt8→Bool) (l:List (List UInt8×List UInt8)) (nm:List UInt8):q0E Prod.fst nm (l.filter fun y=>q y.1)=if q nm=true then q0E Prod.fst nm l else none:=by
  induction l with
  |nil=>unfold q0E;simp
  | cons x l ih=>
    unfold q0E at ih⊢
    cases hq:q x.1 with
    | true=>
      rw[List.filter_cons,if_pos hq,List.find?_cons,List.find?_cons,ih]
      by_cases hx:(x.1==nm)=true
      · rw[hx]
        have:x.1=nm:=by simpa using hx
        rw[this] at hq
        simp[hq]
      · rw[Bool.not_eq_true] at hx
        rw[hx]
    | false=>
      rw[List.filter_cons,if_neg (by simp[hq]),List.find?_cons,ih]
      by_cases hx:(x.1==nm)=true
      · have:x.1=nm:=by simpa using hx
        rw[this] at hq
        simp[hq]
      · rw[Bool.not_eq_true] at hx
        rw[hx]
theorem Fl.filt {σ:DM} {c s:Int} {φ:Fls} {u cnt:Nat} (h:Fl σ c s φ u cnt) (q:List UInt8→Bool):Fl {σ with L:=σ.L.filter fun f=>q f.nm} c s (fun nm=>if q nm=true then φ nm else none) u cnt:=by
  obtain ⟨l,a1,a2,a3,a4,a5⟩:=h
  refine ⟨l.filter fun y=>q y.1,⟨a1.up,a1.fine,?_,a1.cap,a1.st⟩,a2.filter _,fun nm=>?_,Nat.le_trans (q9G _ _) a4,Nat.le_trans (List.length_filter_le _ _) a5⟩
  · rw[←a1.files,List.filter_map];rfl
  · rw[z3l]
    cases hq:q nm with
    |true=>simp only[hq,if_true];exact a3 nm
    |false=>simp[hq]
def z9G (φ:Fls):Prop:=φ mapN=none∧ ∀nm,φ nm≠none→(∃l n,(l=116∨l=98)∧(0≤n∧n≤999999)∧nm=q0B l n)∨ ∃k:Nat,k≤999999∧nm=q0B 99 (k:Int)
def DKO (wb W:World) (g gl:Nat) (c s:Int) (u cnt:Nat) (C:Cks) (sure:Int) (K:Nat→Prop):Prop:=
  ∃σ φ gv F,DkF wb W g F σ (fun i=>K i∨q5x gl gv i)∧(Fl σ c s φ u cnt∧z9G φ∧CksIn φ C)∧(LogM W gl g s gv (q0K C) sure∧okC C)∧(∀i,q5x gl gv i→¬K i∧wb.heap.size≤i)
def IXO (wb W:World) (g gx gl:Nat) (rate:Nat) (sd:Int) (c s:Int) (u cnt:Nat) (C:Cks) (sure:Int) (K:Nat→Prop):Prop:=
  (0≤sd∧sd<18446744073709551616)∧ ∃t σ φ gv,(∀n,t n=none)∧IxK wb W g gx ⟨⟨0,0,sd,[]⟩,rate,[],t,0⟩ σ (fun i=>K i∨q5x gl gv i)∧(Fl σ c s φ u cnt∧z9G φ∧CksIn φ C)∧(LogM W gl g s gv (q0K C) sure∧okC C)∧(∀i,q5x gl gv i→¬K i∧wb.heap.size≤i)
section
variable {wb w W W':World} {g gx gl rate:Nat} {m:Man} {ws:List En} {c s:Int} {u cnt:Nat} {B:List En} {C C':Cks} {sure:Int} {K K':Nat→Prop} {st:IxSt} {σ:DM} {φ:Fls}
theorem DKR.gone (h:DKR wb W g gl m c s u cnt B C sure K):Calls Tryz.prog 46 #[.pointer (some ⟨g,0,none⟩),.string ⟨mapN.toArray⟩] W fun e w'=>
    (e= .returned (.int .i64 0)∨e= .returned (.int .i64 4))∧DKO wb w' g gl c s u cnt C sure K∧Stay K W w':=by
  obtain ⟨st,σ,φ,gv,F,rfl,hw,hF,⟨h6,h6m,h6c⟩,h7,h8⟩:=h
  have honly: ∀nm,nm≠mapN→φ nm≠none→(∃l n,(l=116∨l=98)∧(0≤n∧n≤999999)∧nm=q0B l n)∨ ∃k:Nat,k≤999999∧nm=q0B 99 (k:Int):=fun nm hne hn=>by
    rcases h6.only nm hn with e|⟨n,hn,e⟩|e
    · exact absurd e hne
    · have:=h6.range hn
      rcases e with e|e
      · exact .inl ⟨116,n,.inl rfl,⟨this.1,this.2.1⟩,e⟩
      · exact .inl ⟨98,n,.inr rfl,⟨this.1,this.2.1⟩,e⟩
    · exact .inr e
  refine (q4e hF.d mapN (by decide)).mono ?_
  rintro e w' ⟨rfl,hd⟩
  obtain ⟨k1,k2⟩:=hF.disk hd
  cases h0:φ mapN with
  | none=>
    have hdel:q0O σ mapN=(4,σ):=by
      obtain ⟨l,a1,a2,a3,_⟩:=h6.fl
      exact a1.deleteN (Fl.noFind a3 h0)
    rw[hdel] at k1⊢
    exact ⟨.inr rfl,⟨σ,φ,gv,_,k1,⟨h6.fl,⟨h0,fun nm hn=>honly nm (fun e=>hn (by rw[e];exact h0)) hn⟩,h6c⟩,⟨h7.1.same fun i hi=>k2 i (.inr hi),h7.2⟩,h8⟩,fun i hi=>k2 i (.inl hi)⟩
  | some t=>
    obtain ⟨σ',e1,hfl⟩:=h6.fl.del h0
    rw[e1] at k1⊢
    refine ⟨.inl rfl,⟨σ',q9d φ mapN,gv,_,k1,⟨hfl,⟨by unfold q9d;rw[if_pos rfl],fun nm hn=>?_⟩,fun k hk=>?_⟩,⟨h7.1.same fun i hi=>k2 i (.inr hi),h7.2⟩,h8⟩,fun i hi=>k2 i (.inl hi)⟩
    · unfold q9d at hn
      by_cases he:nm=mapN
      · rw[if_pos he] at hn;exact absurd rfl hn
      · rw[if_neg he] at hn;exact honly nm he hn
    · unfold q9d
      rw[if_neg (q2Y hk).1]
      exact h6c k hk
theorem DKO.iopen (h:DKO wb W g gl c s u cnt C sure K) (sd:Int) (hs0:0≤sd) (hs1:sd<18446744073709551616) (rate:Nat):
    Calls Tryz.prog 57 #[.pointer (some ⟨g,0,none⟩),.agg #[.int .i64 0,.int .i64 0,.int .u64 sd,.slice none 0 0],.float .f64 rate] W fun e w'=>
      ∃gx,e= .returned (.tuple #[.pointer (some ⟨gx,0,none⟩),.int .i64 0])∧IXO wb w' g gx gl rate sd c s u cnt C sure K∧Stay K W w':=by
  obtain ⟨σ,φ,gv,F,hF,h6,h7,h8⟩:=h
  refine (z3j (m:=⟨0,0,sd,[]⟩) hF (ao:=none) (cap:=0) (Grid.empty W) (Nat.zero_le _) (fun x hx=>by cases hx) hs0 hs1 rate).mono ?_
  have hv:q0T 0 0 []=true:=by decide
  rintro e w' (⟨q1,_⟩|⟨_,q1,_⟩|⟨_,_,q1,_⟩|⟨_,_,_,gx,t,rfl,q1,q2,q3⟩)
  · rw[show q0T (⟨0,0,sd,[]⟩:Man).nx (⟨0,0,sd,[]⟩:Man).ck (⟨0,0,sd,[]⟩:Man).L=true from hv] at q1;cases q1
  · rw[h6.1.up] at q1;cases q1
  · exact absurd rfl q1
  · have ht: ∀n,t n=none:=fun n=>by
      have:=q3 n
      cases hn:t n with
      |none=>rfl
      |some e=>rw[hn] at this;cases this
    exact ⟨gx,rfl,⟨⟨hs0,hs1⟩,t,σ,φ,gv,ht,q1,h6,⟨h7.1.same fun i hi=>q2 i (.inr hi),h7.2⟩,h8⟩,fun i hi=>q2 i (.inl hi)⟩
end
end Go.Proofs.YtmajfklnagdlpaaGreatDoor
namespace Go.Proofs.YtmajfklnagdlpaaGreatDoor
open Go.RowKit
set_option maxRecDepth 100000
set_option linter.unusedVariables false
set_option maxHeartbeats 6400000
section
variable {wb w W W':World} {g gx gl rate:Nat} {m:Man} {ws:List En} {c s:Int} {u cnt:Nat} {B:List En} {C C':Cks} {sure sd:Int} {K K':Nat→Prop} {st:IxSt} {σ:DM} {φ:Fls}
theorem z4F {l:UInt8} (hl:l=116∨l=98) {n:Int} (hr:0≤n∧n≤999999):q1J [] (q0B l n)=true:=by
  have hL:q1a l=true:=by rcases hl with rfl|rfl<;>decide
  have hp:=q1j hL hr
  unfold q1J
  rw[hp]
  rcases hl with rfl|rfl<;>simp
theorem IXO.tells (h:IXO wb W g gx gl rate sd c s u cnt C sure K):Calls Tryz.prog 16 #[.pointer (some ⟨gx,0,none⟩)] W fun e w'=>
    ∃v vs,e= .returned (.agg #[.int .i64 0,.int .i64 0,.int .u64 sd,v])∧OGr w' W.heap.size 80 3 v vs []∧Ext W w':=by
  obtain ⟨hs,t,σ,φ,gv,ht,⟨F,gm,gt,Y,q⟩,h6,h7,h8⟩:=h
  exact q6g q.i.x
theorem IXO.grow (h:IXO wb W g gx gl rate sd c s u cnt C sure K) (k:Ext W W'):IXO wb W' g gx gl rate sd c s u cnt C sure K:=by
  obtain ⟨hs,t,σ,φ,gv,ht,hx,h6,h7,h8⟩:=h
  exact ⟨hs,t,σ,φ,gv,ht,hx.grow k,h6,⟨h7.1.ext k,h7.2⟩,h8⟩
theorem IXO.kExt (h:IXO wb W g gx gl rate sd c s u cnt C sure K) (k:Ext W W'):Stay K W W':=by
  obtain ⟨hs,t,σ,φ,gv,ht,hx,h6,h7,h8⟩:=h
  exact fun i hi=>hx.kExt k i (.inl hi)
theorem IXO.clean (h:IXO wb W g gx gl rate sd c s u cnt C sure K) {ao:Option Addr} {cap:Nat} (hG:Grid W ao 0 cap []):
    Calls Tryz.prog 58 #[.pointer (some ⟨g,0,none⟩),.agg #[.int .i64 0,.int .i64 0,.int .u64 sd,.slice ao 0 cap]] W fun e w'=>e= .returned (.int .i64 0)∧IXG wb w' g gx gl rate ⟨0,0,sd,[]⟩ [] c s u cnt [] C sure K∧Stay K W w':=by
  obtain ⟨⟨hs0,hs1⟩,t,σ,φ,gv,ht,h5,⟨hfl,⟨hm0,hon⟩,hck⟩,h7,h8⟩:=h
  have hup:σ.down=false:=hfl.up
  have hfine:σ.fail=false:=by obtain ⟨l,hpl,_⟩:=hfl;exact hpl.fine
  have hsh: ∀x∈q1M σ,x.length≤9223372036854775807:=fun x hx=>by
    have hx2:φ x≠none:=by
      obtain ⟨l,h1,_,h2,_⟩:=hfl
      rw[h1.names] at hx
      rw[←h2 x]
      obtain ⟨y,hy,rfl⟩:=List.mem_map.1 hx
      intro hn
      cases hf:q0E Prod.fst y.1 l with
      |some z=>rw[hf] at hn;cases hn
      |none=>exact q0W hf y hy rfl
    rcases hon x hx2 with ⟨l,n,_,hn,rfl⟩|⟨k,hk,rfl⟩
    · rw[q0P hn,List.length_cons,q0X];decide
    · rw[q0P (by omega),List.length_cons,q0X];decide
  refine (h5.disk (σ1:={σ with L:=σ.L.filter fun f=>!q1J [] f.nm}) (R:=fun e=>e= .returned (.int .i64 0)) fun F hd=>z3v hd hup hfine hsh (nx:=0) (ck:=0) (sd:=sd) hG (by simp)).mono ?_
  rintro e w' ⟨he,k1,k2⟩
  have hv:q0T 0 0 []=true:=by decide
  have hfl2:=hfl.filt (fun nm=>!q1J [] nm)
  refine ⟨he,⟨_,_,_,gv,rfl,rfl,rfl,Nat.zero_le _,k1,⟨⟨hfl2,⟨hv,hs0,hs1⟩,(fun n hn=>by cases hn),(fun n e he=>by simp only at he;rw[ht n] at he;cases he),fun nm hnm=>?_,okM.nil,okM.nil,fun x=>?_⟩,.inr ⟨?_,rfl,rfl,rfl⟩,fun k hk=>?_⟩,⟨h7.1.same fun i hi=>k2 i (.inr hi),h7.2⟩,h8⟩,fun i hi=>k2 i (.inl hi)⟩
  · by_cases hq:(!q1J [] nm)=true
    · simp only[hq,if_true] at hnm
      rcases hon nm hnm with ⟨l,n,hl,hn,rfl⟩|e
      · rw[z4F hl hn] at hq;cases hq
      · exact .inr (.inr e)
    · simp only[hq] at hnm
      exact absurd rfl hnm
  · constructor
    · intro hx;cases hx
    · rintro (hx|⟨n,e,he,_⟩)
      · cases hx
      · simp only at he;rw[ht n] at he;cases he
  · simp only[z1y];exact hm0
  · simp only[q7b hk];exact hck k hk
end
end Go.Proofs.YtmajfklnagdlpaaGreatDoor
namespace Go.Proofs.YtmajfklnagdlpaaGreatDoor
open Go.RowKit
set_option maxRecDepth 100000
set_option linter.unusedVariables false
set_option maxHeartbeats 6400000
section
variable {wb w W W':World} {g gx gl:Nat} {m:Man} {ws:List En} {c s:Int} {u cnt:Nat} {B:List En} {C C':Cks} {sure sd:Int} {K K':Nat→Prop} {st:IxSt} {σ:DM} {φ:Fls}
theorem z1R (C:Cks) (pos:Int):(q1Q C pos).length≤(q1k 0 C).length:=List.length_filter_le _ _
theorem q5z {B B2:List En} (h:okM B2) (k: ∀x,x∈B↔x∈B2):B2.length≤B.length:=
  q8M (h.sort.imp fun {a b} hab e=>by subst e;rw[q2H] at hab;cases hab) fun x hx=>(k x).2 hx
theorem IXO.more {rate:Nat} (h:IXO wb W g gx gl rate sd c s u cnt C sure K) (k:Ext W W') (hK: ∀i,K' i→K i∨(W.heap.size≤i∧i<W'.heap.size)):IXO wb W' g gx gl rate sd c s u cnt C sure K':=by
  obtain ⟨hs,t,σ,φ,gv,ht,h5,h6,h7,h8⟩:=h
  refine ⟨hs,t,σ,φ,gv,ht,h5.more k (fun i hi=>?_),h6,⟨h7.1.ext k,h7.2⟩,fun i hi=>⟨fun hk=>?_,(h8 i hi).2⟩⟩
  · rcases hi with hi|hi
    · exact (hK i hi).imp .inl id
    · exact .inl (.inr hi)
  · rcases hK i hk with h10|⟨h10,_⟩
    · exact (h8 i hi).1 h10
    · have:=h7.1.lt hi;omega
def y0A (wb W:World) (g gl:Nat) (rate:Nat) (m:Man) (c s:Int) (u cnt:Nat) (B:List En) (C:Cks) (sure:Int) (K:Nat→Prop) (sd:Int) (e:Ending) (w':World):Prop:=
  ((∃ gx m' B2 D an,e= .returned (.tuple #[.pointer (some ⟨gx,0,none⟩),.bool an,.int .i64 0])∧IXG wb w' g gx gl rate m' (q2U D []) c s u cnt (q2U D B2) C sure K∧q7C sd (q1Q C m'.ck)=some D∧
      ((an=false∧m'=m.cut∧m.sd=sd∧m.ck≤q3J C∧0<m.nx∧ ∀x,x∈B↔x∈B2)∨(an=true∧m'=⟨0,0,sd,[]⟩∧B2=[]∧((m.nx=0∧m.ck=0∧m.L=[])∨m.sd≠sd∨q3J C<m.ck))))∨
    (e= .returned (.tuple #[.pointer none,.bool false,.int .i64 63])∧Ext wb w'∧((m.sd=sd∧q7C sd (q1Q C m.ck)=none)∨q7C sd (q1Q C 0)=none)))∧Stay K W w'
theorem q6Y (h:DKR wb w g gl m c s u cnt B C sure K) (hcn:m.L.flatten.length≤cnt) (hB:B.length+8*(q1k 0 C).length≤40000) (hs0:0≤sd) (hs1:sd<18446744073709551616) (rate:Nat):
    Calls Tryz.prog 13 #[.pointer (some ⟨g,0,none⟩),.pointer (some ⟨gl,0,none⟩),.int .u64 sd,.float .f64 rate] w (y0A wb w g gl rate m c s u cnt B C sure K sd):=by
  have hman:=h.man
  have hb:=Man.bounds hman
  have HLy:=Lib.hid (z6w h hcn sd rate)
  have HBl:=Lib.hid hB
  have hfd: ∀(W:World) (x y z t:Value),(Instr.field 45 (.agg #[x,y,z,t]) 2).run Tryz.prog W= .ok z W:=fun _ _ _ _ _=>rfl
  clear h hB
  go_enter Tryz.func13,Tryz.ntmps13
  go_wp2_with fail
  refine HLy.out.mono ?_
  rintro e w1 ⟨hl,hst⟩
  have HS:=Lib.hid hst
  clear hst HLy
  rcases hl with ⟨gx,B2,rfl,hi,hm,hsd,hck,hpos⟩|⟨n,rfl,hn,hd,hwhy⟩
  · have HM:=Lib.hid hm
    have HLen:=Lib.hid (q5z hi.okB.1 hm)
    obtain ⟨M,hM⟩: ∃M,m.cut=M:=⟨_,rfl⟩
    have HMc:=Lib.hid hM
    have HMk:Hid (M.ck=m.ck):=Lib.hid (by rw[←hM];rfl)
    have HMs:Hid (M.sd=sd):=Lib.hid (by rw[←hM,←hsd];rfl)
    have HM0:Hid (0≤M.ck):=Lib.hid (by rw[HMk.out];omega)
    have HM1:Hid (M.ck≤9223372036854775807):=Lib.hid (by rw[HMk.out];omega)
    rw[hM] at hi
    have HI:=Lib.hid hi
    clear hi hm hM
    have HT:=Lib.hid HI.out.tells
    go_wp2_with fail
    refine HT.out.mono ?_
    rintro e w2 ⟨v,vs,rfl,ho,hx⟩
    obtain ⟨ao,cp,rfl,hg⟩:=ho.grid
    have hq:=q0C w2 (.cells #[.int .i64 M.nx,.int .i64 M.ck,.int .u64 M.sd,.slice ao M.L.length cp] 45)
    have hbk:=Blk.new w2 45 #[.int .i64 M.nx,.int .i64 M.ck,.int .u64 M.sd,.slice ao M.L.length cp]
    have HI2:=Lib.hid ((HI.out.grow hx).more (K':=fun i=>K i∨i=w2.heap.size) hq (fun i hi=>hi.imp id fun e=>⟨by omega,by rw[e];exact hbk.lt⟩))
    have HS2:=Lib.hid (HS.out.trans (HI.out.kExt (hx.trans hq)))
    have HC:=Lib.hid (((HI.out.grow hx).more (K':=fun i=>K i∨i=w2.heap.size) hq (fun i hi=>hi.imp id fun e=>⟨by omega,by rw[e];exact hbk.lt⟩)).clean (hg.ext hq) M.nx M.ck M.sd)
    have HB2:=Lib.hid hbk
    clear ho hx hg hq hbk HT
    go_wp2_with fail
    refine HC.out.mono ?_
    rintro e w3 ⟨rfl,hi,hs⟩
    have HS3:=Lib.hid (HS2.out.trans (fun i hi=>hs i (.inl hi)))
    have hb3:=HB2.out.same (hs _ (.inr rfl))
    have c1:w3.cell? ⟨w2.heap.size,1,none⟩=some (.int .i64 M.ck):=hb3.cell 1
    have HR:=Lib.hid (z1n hi M.ck HM0.out HM1.out (by have h1:=z1R C M.ck;have h2:=HBl.out;have h3:=HLen.out;omega))
    clear hi hs hb3 HC
    go_wp2_with fail
    refine HR.out.mono ?_
    rintro e w4 ⟨D,hi,hs,(⟨hr,rfl⟩|⟨hr,rfl⟩)⟩
    · have HI4:=Lib.hid (hi.beside (K':=K) fun i hi=> .inl hi)
      have HS4:=Lib.hid (HS3.out.trans (fun i hi=>hs i (.inl hi)))
      have HRr:=Lib.hid hr
      clear hi hs hr
      go_wp2_with fail
      go_ret3
      exact ⟨.inl ⟨gx,_,_,D,_,rfl,HI4.out,by rw[←HMs.out];exact HRr.out,.inl ⟨rfl,HMc.out.symm,hsd,hck,hpos,HM.out⟩⟩,HS4.out⟩
    · have HX4:=Lib.hid hi.base
      have HS4:=Lib.hid (HS3.out.trans (fun i hi=>hs i (.inl hi)))
      have HRr:=Lib.hid hr
      clear hi hs hr
      go_wp2_with fail
      go_ret3
      exact ⟨.inr ⟨rfl,HX4.out,.inl ⟨hsd,by rw[←HMk.out,←HMs.out];exact HRr.out⟩⟩,HS4.out⟩
  · have HD:=Lib.hid hd;have HW:=Lib.hid hwhy
    have HGo:=Lib.hid hd.gone
    clear hd hwhy
    rcases hn with rfl|rfl
    all_goals
      go_wp2_with fail
      refine HGo.out.mono ?_
      rintro e w5 ⟨he,hd,hs⟩
      have HO:=Lib.hid (hd.iopen sd hs0 hs1 rate)
      have HS5:=Lib.hid (HS.out.trans hs)
      clear hd hs
      rcases he with rfl|rfl
      all_goals
        go_wp2_with fail
        refine HO.out.mono ?_
        rintro e w6 ⟨gx,rfl,hi,hs⟩
        have HI:=Lib.hid hi
        have HS:=Lib.hid (HS5.out.trans hs)
        clear hi hs HO HGo
        have HT:=Lib.hid HI.out.tells
        go_wp2_with fail
        refine HT.out.mono ?_
        rintro e w2 ⟨v,vs,rfl,ho,hx⟩
        obtain ⟨ao,cp,rfl,hg⟩:=ho.grid
        have hq:=q0C w2 (.cells #[.int .i64 0,.int .i64 0,.int .u64 sd,.slice ao 0 cp] 45)
        have hbk:=Blk.new w2 45 #[.int .i64 0,.int .i64 0,.int .u64 sd,.slice ao 0 cp]
        have HI2:=Lib.hid ((HI.out.grow hx).more (K':=fun i=>K i∨i=w2.heap.size) hq (fun i hi=>hi.imp id fun e=>⟨by omega,by rw[e];exact hbk.lt⟩))
        have HS2:=Lib.hid (HS.out.trans (HI.out.kExt (hx.trans hq)))
        have HC:=Lib.hid (((HI.out.grow hx).more (K':=fun i=>K i∨i=w2.heap.size) hq (fun i hi=>hi.imp id fun e=>⟨by omega,by rw[e];exact hbk.lt⟩)).clean (ao:=ao) (cap:=cp) (hg.ext hq))
        have HB2:=Lib.hid hbk
        clear ho hx hg hq hbk HT
        go_wp2_with fail
        refine HC.out.mono ?_
        rintro e w3 ⟨rfl,hi,hs⟩
        have HS3:=Lib.hid (HS2.out.trans (fun i hi=>hs i (.inl hi)))
        have hb3:=HB2.out.same (hs _ (.inr rfl))
        have c1:w3.cell? ⟨w2.heap.size,1,none⟩=some (.int .i64 0):=hb3.cell 1
        have HR:=Lib.hid (z1n hi 0 (by decide) (by decide) (by have h1:=z1R C 0;have h2:=HBl.out;rw[List.length_nil];omega))
        clear hi hs hb3 HC
        go_wp2_with fail
        refine HR.out.mono ?_
        rintro e w4 ⟨D,hi,hs,(⟨hr,rfl⟩|⟨hr,rfl⟩)⟩
        · have HI4:=Lib.hid (hi.beside (K':=K) fun i hi=> .inl hi)
          have HS4:=Lib.hid (HS3.out.trans (fun i hi=>hs i (.inl hi)))
          have HRr:=Lib.hid hr
          clear hi hs hr
          go_wp2_with fail
          go_ret3
          exact ⟨.inl ⟨gx,_,_,D,_,rfl,HI4.out,HRr.out,.inr ⟨rfl,rfl,rfl,HW.out⟩⟩,HS4.out⟩
        · have HX4:=Lib.hid hi.base
          have HS4:=Lib.hid (HS3.out.trans (fun i hi=>hs i (.inl hi)))
          have HRr:=Lib.hid hr
          clear hi hs hr
          go_wp2_with fail
          go_ret3
          exact ⟨.inr ⟨rfl,HX4.out,.inr HRr.out⟩,HS4.out⟩
end
end Go.Proofs.YtmajfklnagdlpaaGreatDoor
namespace Go.Proofs.YtmajfklnagdlpaaGreatDoor
open Go.RowKit
set_option maxRecDepth 100000
set_option linter.unusedVariables false
set_option maxHeartbeats 6400000
section
variable {wb w W W':World} {g gx gl rate:Nat} {m:Man} {ws:List En} {c s:Int} {u cnt:Nat} {B:List En} {C C':Cks} {sure sd:Int} {K K':Nat→Prop}
theorem DKR.fresh (h:LgK noO wb w g gl c s [] sure K) (sd:Int) (hs0:0≤sd) (hs1:sd<18446744073709551616):DKR wb w g gl ⟨0,0,sd,[]⟩ c s 0 0 [] [] sure K:=
  h.dkr (fun k hk=>by simp[q2z,q0E]) (by simp[q2z,q0E]) sd hs0 hs1
theorem q9B (pos:Int):q1Q [] pos=[]:=rfl
theorem z0r (h:LgK noO wb w g gl c s [] sure K) (hs0:0≤sd) (hs1:sd<18446744073709551616) (rate:Nat):
    Calls Tryz.prog 13 #[.pointer (some ⟨g,0,none⟩),.pointer (some ⟨gl,0,none⟩),.int .u64 sd,.float .f64 rate] w fun e w'=>
      ∃gx,e= .returned (.tuple #[.pointer (some ⟨gx,0,none⟩),.bool true,.int .i64 0])∧IXG wb w' g gx gl rate ⟨0,0,sd,[]⟩ [] c s 0 0 [] [] sure K∧Stay K w w':=by
  refine (q6Y (DKR.fresh h sd hs0 hs1) (Nat.zero_le _) (by show 0+8*0≤40000;omega) hs0 hs1 rate).mono ?_
  rintro e w' ⟨⟨gx,m',B2,D,an,rfl,hi,hr,hw⟩|⟨rfl,_,hb⟩,hs⟩
  · rw[q9B] at hr
    have hD:D=[]:=(Option.some.inj hr).symm
    subst hD
    rcases hw with ⟨_,_,_,_,hp,_⟩|⟨rfl,rfl,rfl,_⟩
    · exact absurd hp (by show ¬(0:Int)<0;omega)
    · exact ⟨gx,rfl,hi,hs⟩
  · rw[q9B] at hb
    rcases hb with ⟨_,hb⟩|hb
    · cases hb
    · cases hb
def bt1 :Bt:=⟨[115],0,[⟨[116],[],0⟩]⟩
theorem z6r :z9l bt1:=⟨by decide,fun e he=>by
  obtain rfl:=List.mem_singleton.1 he
  decide⟩
theorem z8C (p:List UInt8):q1k 0 [[p]]=[(12,p)]:=rfl
theorem z2T (p:List UInt8) {pos:Int} (h:pos≤12):q1Q [[p]] pos=[(12,p)]:=by
  unfold q1Q;rw[z8C,List.filter_cons_of_pos (by simpa using h)];rfl
theorem z6l (p:List UInt8) {pos:Int} (h:12<pos):q1Q [[p]] pos=[]:=by
  unfold q1Q;rw[z8C,List.filter_cons_of_neg (by simp;omega)];rfl
theorem z9z (sd:Int):q7C sd [(12,btB bt1)]=some [(q3K sd [115],0,12)]:=by
  rw[q7C,z7E bt1 z6r]
  rfl
theorem z7Y (f:Int) (p:List UInt8) (hp:p.length≤2000) (hf:6000≤f-((p.length:Int)+24)):q0n f [] p=(12,0,[[p]]):=by
  unfold q0n
  rw[if_neg (by omega),if_neg (by unfold q3g;simp),if_neg (by simp;omega)]
  rfl
theorem z2r {f x:Int} {p:List UInt8} {C:Cks} (hp:p.length≤2000) (h:q0n f [] p=(x,0,C)):x=12∧C=[[p]]:=by
  unfold q0n at h
  rw[if_neg (by omega),if_neg (by unfold q3g;simp)] at h
  split at h
  · cases h
  · injection h with h1 h
    injection h with _ h
    exact ⟨h1.symm,h.symm⟩
end
end Go.Proofs.YtmajfklnagdlpaaGreatDoor
namespace Go.Proofs.YtmajfklnagdlpaaGreatDoor
open Go.RowKit
set_option maxRecDepth 100000
set_option linter.unusedVariables false
set_option maxHeartbeats 6400000
def WaitIn (W:World) (gx:Nat) (n:Nat) (Z:Nat→Prop):Prop:= ∃g gm gt st Y,IxY W gx g gm gt st Y∧st.w.length=n∧(∀i,InX gx gm gt i∨Y i→Z i)
section
variable {wb w W W':World} {g gx gl rate:Nat} {m:Man} {ws:List En} {c s:Int} {u cnt:Nat} {B:List En} {C C':Cks} {sure sd:Int} {K K' Z:Nat→Prop}
theorem WaitIn.stay {n:Nat} (h:WaitIn W gx n Z) (k:Stay Z W W'):WaitIn W' gx n Z:=by
  obtain ⟨g,gm,gt,st,Y,h1,h2,h3⟩:=h
  exact ⟨g,gm,gt,st,Y,h1.stay fun i hi=>k i (h3 i hi),h2,h3⟩
theorem WaitIn.waits {n:Nat} (h:WaitIn W gx n Z):Calls Tryz.prog 43 #[.pointer (some ⟨gx,0,none⟩)] W fun e w'=>e= .returned (.int .i64 (n:Int))∧W=w':=by
  obtain ⟨g,gm,gt,st,Y,h1,h2,h3⟩:=h
  rw[←h2]
  exact q7P h1
theorem IXG.forgetW (h:IXG wb W g gx gl rate m ws c s u cnt B C sure K): ∃B0 Z,DKR wb W g gl m c s u cnt B0 C sure (fun i=>K i∨Z i)∧(∀x,x∈B↔x∈ws∨x∈B0)∧WaitIn W gx ws.length Z:=by
  obtain ⟨st,σ,φ,gv,rfl,rfl,h3,h4,⟨F,gm,gt,Y,q⟩,⟨h6,h6m,h6c⟩,h7,h8⟩:=h
  have hr:=h6.reopen (t2:=st.t) 0 rate st.c (fun n=>?_) (fun n e he=>(h6.tb n e he).2.2.2.2)
  · rw [show tellN 0 σ=σ from rfl] at hr
    have hF:DkF wb W g F σ (fun i=>(K i∨(InX gx gm gt i∨Y i))∨q5x gl gv i):=⟨q.i.d,q.bF,q.ext,fun i hi=>by
      rcases hi with (hi|hi)|hi
      · exact ⟨(q.k i (.inl hi)).1,(q.k i (.inl hi)).2.1⟩
      · exact ⟨hi.elim (q.i.x.xlt i) (q.i.x.ylt i),q.notF i hi⟩
      · exact ⟨(q.k i (.inr hi)).1,(q.k i (.inr hi)).2.1⟩⟩
    refine ⟨_,fun i=>InX gx gm gt i∨Y i,⟨⟨st.m,rate,[],st.t,st.c⟩,σ,φ,gv,F,rfl,rfl,hF,⟨hr,h6m,h6c⟩,h7,fun i hi=>⟨fun hk=>?_,(h8 i hi).2⟩⟩,h6.parts,⟨g,gm,gt,st,Y,q.i.x,rfl,fun i hi=>hi⟩⟩
    rcases hk with hk|hk|hk
    · exact (h8 i hi).1 hk
    · exact (q.k i (.inr hi)).2.2.1 hk
    · exact (q.k i (.inr hi)).2.2.2 hk
  · by_cases hn:n∈st.m.L.flatten
    · obtain ⟨e,he⟩:=h6.full n hn
      rw[if_pos hn,he,q5M he];rfl
    · rw[if_neg hn]
      cases he:st.t n with
      |none=>rfl
      |some e=>exact absurd (h6.tb n e he).1 hn
end
end Go.Proofs.YtmajfklnagdlpaaGreatDoor
namespace Go.Proofs.YtmajfklnagdlpaaGreatDoor
open Go.RowKit
set_option maxRecDepth 100000
set_option linter.unusedVariables false
set_option maxHeartbeats 6400000
theorem Evs.lit1 (w:World) (e:Ev):Evs (w.alloc (.cells #[.string ⟨e.ty.toArray⟩,.string ⟨e.da.toArray⟩,.float .f64 e.we] 60)) (some ⟨w.heap.size,0,none⟩) 1 1 [e]:=
  ⟨rfl,Nat.le_refl _,by omega,(fun h=>by cases h),Rd.lit w #[.string ⟨e.ty.toArray⟩,.string ⟨e.da.toArray⟩,.float .f64 e.we] 60⟩
theorem DKR.okB {wb W:World} {g gl:Nat} {m:Man} {c s:Int} {u cnt:Nat} {B:List En} {C:Cks} {sure:Int} {K:Nat→Prop} (h:DKR wb W g gl m c s u cnt B C sure K):okM B:=by obtain ⟨st,σ,φ,gv,F,rfl,hw,hF,⟨h6,h6m,h6c⟩,h7,h8⟩:=h;exact h6.okB
theorem q4r (w:World):Calls Tryz.prog 9 #[] w fun e w'=>e= .returned (.bool true)∧Ext w w':=by
  have HN:=Lib.hid (DkK.new24 w 20000 (by decide) (by decide))
  have hms:z0s 0 0 5 [] 0 0 5 []=true:=by rw[q6m];simp
  go_enter Tryz.func9,Tryz.ntmps9
  go_wp2_with fail
  refine HN.out.mono ?_
  rintro e w1 ⟨g,rfl,hd⟩
  have HO:=Lib.hid (z4z hd)
  clear hd HN
  go_wp2_with fail
  refine HO.out.mono ?_
  rintro e w2 ⟨gl,rfl,hgl,hl,hs⟩
  have HR:=Lib.hid (z0r (sd:=5) hl (by decide) (by decide) 4591870180066957722)
  clear hl hs HO
  go_wp2_with fail
  refine HR.out.mono ?_
  rintro e w3 ⟨gx,rfl,hi,hs⟩
  have HI:=Lib.hid hi
  have HT:=Lib.hid hi.tells
  clear hi hs HR
  go_wp2_with fail
  refine HT.out.mono ?_
  rintro e w4 ⟨v,vs,rfl,ho,hx⟩
  obtain ⟨ao,cp,rfl,hg⟩:=ho.grid
  have HI4:=Lib.hid (HI.out.grow hx)
  have HSm:=Lib.hid (q7q 0 0 5 ao 0 cp [] 0 0 5 none 0 0 [] w4 hg (Grid.empty _))
  rw[hms] at HSm
  clear hx hg ho HT
  go_wp2_with fail
  refine HSm.out.mono ?_
  rintro e w5 ⟨rfl,hx⟩
  have HI5:=Lib.hid (HI4.out.grow hx)
  have HW:=Lib.hid HI5.out.waits
  clear hx HSm
  go_wp2_with fail
  refine HW.out.mono ?_
  rintro e w5' ⟨rfl,rfl⟩
  clear HW
  have HX5:=Lib.hid (q0C w5 (.cells #[.string ⟨#[116]⟩,.string ⟨#[]⟩,.float .f64 0] 60))
  have HP:=Lib.hid (z9J (b:=bt1) (ao:=some ⟨w5.heap.size,0,none⟩) (n:=1) (cap:=1) _ (Evs.lit1 w5 ⟨[116],[],0⟩) z6r)
  have HI5':=Lib.hid (HI5.out.grow HX5.out)
  go_wp2_with fail
  refine HP.out.mono ?_
  rintro e w6 ⟨rfl,hx⟩
  have HI6:=Lib.hid (HI5'.out.grow hx)
  have HRep:=Lib.hid z9z
  have HLn:Hid ((btB bt1).length=25):=Lib.hid (by decide)
  generalize btB bt1=p at*
  have HA:=Lib.hid (HI6.out.append p (by rw[HLn.out];decide) (by decide))
  clear hx HP
  go_wp2_with fail
  refine HA.out.mono ?_
  rintro e w7 ⟨⟨f7,x7,C7,sure7,hap,rfl,h7⟩|⟨_,_,hno⟩,hs⟩
  case inr=>exfalso;rw[HLn.out] at hno;revert hno;decide
  obtain ⟨rfl,rfl⟩:=z2r (by rw[HLn.out];decide) hap
  obtain ⟨B0,hd,hm⟩:=h7.forget
  obtain rfl:B0=[]:=List.eq_nil_iff_forall_not_mem.2 fun x hx=>by
    rcases (hm x).2 (.inr hx) with h
    cases h
  have HR2:=Lib.hid (q6Y (sd:=5) hd (Nat.zero_le _) (by rw[z8C];show 0+8*1≤40000;omega) (by decide) (by decide) 4591870180066957722)
  clear hd hm hs HA h7
  go_wp2_with fail
  refine HR2.out.mono ?_
  rintro e w8 ⟨⟨gx2,m2,B2,D,an,rfl,hi,hr,hw⟩|⟨rfl,_,hb⟩,hs⟩
  case inr=>
    exfalso
    have e0:q7C 5 (q1Q [[p]] 0)=some [(q3K 5 [115],0,12)]:=by rw[z2T p (pos:=0) (by decide),HRep.out]
    have hb:q7C 5 (q1Q [[p]] 0)=none:=hb.elim (fun h=>h.2) id
    rw[e0] at hb;cases hb
  rcases hw with ⟨_,_,_,_,hpos,_⟩|⟨rfl,rfl,rfl,_⟩
  · exact absurd hpos (by decide)
  rw[show (⟨0,0,5,[]⟩:Man).ck=0 from rfl,z2T p (by decide),HRep.out] at hr
  obtain rfl:=Option.some.inj hr
  have hi:IXG w w8 g gx2 gl 4591870180066957722 ⟨0,0,5,[]⟩ [(q3K 5 [115],0,12)] 20000 0 (0+(p.length+24)) (0+1) [(q3K 5 [115],0,12)] [[p]] sure7 noI:=hi
  have HI8:=Lib.hid hi
  have HW8:=Lib.hid hi.waits
  clear hi hr hs HR2
  go_wp2_with fail
  refine HW8.out.mono ?_
  rintro e w8' ⟨rfl,rfl⟩
  have HF8:=Lib.hid (HI8.out.flush (by decide) (by decide) (by decide))
  have hfl:q7Y ⟨0,0,5,[]⟩ [(q3K 5 [115],0,12)] (q3J [[p]])=(0,(⟨0,0,5,[]⟩:Man).add [[0]] (q3J [[p]]),[]):=by
    unfold q7Y
    rw[if_neg (by simp),show addS (⟨0,0,5,[]⟩:Man).L (⟨0,0,5,[]⟩:Man).nx=([[0]],0) by decide,if_neg (by simp)]
  rw[hfl] at HF8
  clear hfl
  go_wp2_with fail
  refine HF8.out.mono ?_
  rintro e w9 ⟨⟨rfl,hi⟩|⟨_,_,hno⟩,hs⟩
  case inr=>exfalso;rw[HLn.out] at hno;revert hno;decide
  obtain ⟨B0,hd,hm⟩:=hi.forget
  clear hi hs HF8 HI8 HW8
  have hm': ∀x,x∈[(q3K 5 [115],(0:Int),(12:Int))]↔x∈B0:=fun x=>by rw[hm x];simp
  have hB0:B0.length≤1:=q5z hd.okB hm'
  have hend:12<q3J [[p]]:=by
    have:q3J [[p]]=(q0M [p]:Int):=by unfold q3J;simp
    rw[this,q4q];omega
  have HR3:=Lib.hid (q6Y (sd:=5) hd (by show 1≤0+1+3;omega) (by rw[z8C];show B0.length+8*1≤40000;omega) (by decide) (by decide) 4591870180066957722)
  have HEnd:=Lib.hid hend
  clear hd hm hm' hend
  go_wp2_with fail
  refine HR3.out.mono ?_
  rintro e w10 ⟨⟨gx3,m3,B3,D,an,rfl,hi,hr,hw⟩|⟨rfl,_,hb⟩,hs⟩
  case inr=>
    exfalso
    have e0:q7C 5 (q1Q [[p]] 0)=some [(q3K 5 [115],0,12)]:=by rw[z2T p (pos:=0) (by decide),HRep.out]
    have e1:q7C 5 (q1Q [[p]] (q3J [[p]]))=some []:=by rw[z6l p HEnd.out];rfl
    rcases hb with ⟨_,hb⟩|hb
    · rw[show ((⟨0,0,5,[]⟩:Man).add [[0]] (q3J [[p]])).ck=q3J [[p]] from rfl,e1] at hb;cases hb
    · rw[e0] at hb;cases hb
  rcases hw with ⟨rfl,rfl,_,_,_,hm⟩|⟨_,_,_,hwhy⟩
  case inr=>
    exfalso
    rcases hwhy with ⟨h,_⟩|h|h
    · exact absurd h (by show ¬(0:Int)+1=0;omega)
    · exact h rfl
    · exact absurd h (by show ¬q3J [[p]]<q3J [[p]];omega)
  rw[show ((⟨0,0,5,[]⟩:Man).add [[0]] (q3J [[p]])).cut.ck=q3J [[p]] from rfl,z6l p HEnd.out] at hr
  obtain rfl:=Option.some.inj hr
  obtain ⟨B4,Z,hd4,hm4,hw4⟩:=hi.forgetW
  have hB3:B3.length≤B0.length:=q5z hi.okB.1 hm
  have hB4:B4.length≤B3.length:=q5z hd4.okB (fun x=>by rw[←show q2U [] B3=B3 from rfl,hm4 x];simp[q2U])
  have HR4:=Lib.hid (q6Y (sd:=6) hd4 (by show (q0N [[0]]).flatten.length≤0+1+3;decide) (by rw[z8C];show B4.length+8*1≤40000;omega) (by decide) (by decide) 4591870180066957722)
  have HWt:=Lib.hid hw4
  clear hi hr hs HR3 hd4 hm4 hw4 hB3 hB4 hB0
  go_wp2_with fail
  refine HR4.out.mono ?_
  rintro e w11 ⟨⟨gx4,m4,B5,D,an,rfl,hi,hr,hw⟩|⟨rfl,_,hb⟩,hs⟩
  case inr=>
    exfalso
    have e0:q7C 6 (q1Q [[p]] 0)=some [(q3K 6 [115],0,12)]:=by rw[z2T p (pos:=0) (by decide),HRep.out]
    rcases hb with ⟨hb,_⟩|hb
    · exact absurd hb (by show ¬(5:Int)=6;omega)
    · rw[e0] at hb;cases hb
  rcases hw with ⟨_,_,hsd,_⟩|⟨rfl,rfl,rfl,_⟩
  · exact absurd hsd (by show ¬(5:Int)=6;omega)
  rw[show (⟨0,0,6,[]⟩:Man).ck=0 from rfl,z2T p (pos:=0) (by decide),HRep.out] at hr
  obtain rfl:=Option.some.inj hr
  have HI11:=Lib.hid hi
  have HWy:=Lib.hid ((HWt.out.stay fun i hi=>hs i (.inr hi)).waits)
  have HWz:=Lib.hid hi.waits
  have HTz:=Lib.hid hi.tells
  have hms6:z0s 0 0 6 [] 0 0 6 []=true:=by rw[q6m];simp
  clear hi hr hs HR4
  go_wp2_with fail
  refine HWy.out.mono ?_
  rintro e w11' ⟨rfl,rfl⟩
  go_wp2_with fail
  refine HWz.out.mono ?_
  rintro e w11' ⟨rfl,rfl⟩
  go_wp2_with fail
  refine HTz.out.mono ?_
  rintro e w12 ⟨v,vs,rfl,ho,hx⟩
  obtain ⟨ao,cp,rfl,hg⟩:=ho.grid
  have HS12:=Lib.hid (q7q 0 0 6 ao 0 cp [] 0 0 6 none 0 0 [] w12 hg (Grid.empty _))
  rw[hms6] at HS12
  have HX12:=Lib.hid ((HI11.out.grow hx).base)
  clear hx hg ho
  go_wp2_with fail
  refine HS12.out.mono ?_
  rintro e w13 ⟨rfl,hx⟩
  have HX13:=Lib.hid (HX12.out.trans hx)
  clear hx
  go_wp2_with fail
  go_ret
  exact ⟨rfl,HX13.out⟩
end Go.Proofs.YtmajfklnagdlpaaGreatDoor
namespace Go.Proofs.YtmajfklnagdlpaaGreatDoor
open Go.RowKit
set_option maxRecDepth 100000
set_option linter.unusedVariables false
set_option maxHeartbeats 6400000
theorem z0d (w:World) (p:Option Addr) (sd:Int) (rate:Nat):
    Calls Tryz.prog 13 #[.pointer p,.pointer none,.int .u64 sd,.float .f64 rate] w fun e w'=>e= .returned (.tuple #[.pointer none,.bool false,.int .i64 1])∧w=w':=by
  go_enter Tryz.func13,Tryz.ntmps13
  go_wp2_with fail
  go_ret3
  exact ⟨rfl,rfl⟩
theorem q7f (w:World) (p:Option Addr) (gl:Nat) (sd:Int) (rate:Nat) {n:Int} (hn:n=1∨n=61)
    (hL:Calls Tryz.prog 127 #[.pointer p] w fun e w'=> ∃a c,e= .returned (.tuple #[.agg #[.int .i64 0,.int .i64 0,.int .u64 0,.slice a 0 c],.int .i64 n])∧Ext w w'):
    Calls Tryz.prog 13 #[.pointer p,.pointer (some ⟨gl,0,none⟩),.int .u64 sd,.float .f64 rate] w fun e w'=>e= .returned (.tuple #[.pointer none,.bool false,.int .i64 n])∧Ext w w':=by
  have HL:=Lib.hid hL
  clear hL
  have HY:Hid (Calls Tryz.prog 56 #[.pointer p,.pointer (some ⟨gl,0,none⟩),.int .u64 sd,.float .f64 rate] w fun e w'=>e= .returned (.tuple #[.pointer none,.int .i64 n])∧Ext w w'):=Lib.hid (by
    rcases hn with rfl|rfl
    all_goals
      go_enter Tryz.func56,Tryz.ntmps56
      go_wp2_with fail
      refine HL.out.mono ?_
      rintro e w1 ⟨a,c,rfl,hx⟩
      have HX:=Lib.hid (hx.trans (q0C w1 (.cells #[.int .i64 0,.int .i64 0,.int .u64 0,.slice a 0 c] 45)))
      clear hx
      go_wp2_with fail
      go_ret2
      exact ⟨rfl,HX.out⟩)
  clear HL
  rcases hn with rfl|rfl
  all_goals
    go_enter Tryz.func13,Tryz.ntmps13
    go_wp2_with fail
    refine HY.out.mono ?_
    rintro e w1 ⟨rfl,hx⟩
    have HX:=Lib.hid hx
    clear hx
    go_wp2_with fail
    go_ret3
    exact ⟨rfl,HX.out⟩
end Go.Proofs.YtmajfklnagdlpaaGreatDoor
namespace Go.Proofs.YtmajfklnagdlpaaGreatDoor
open Go.RowKit
set_option maxRecDepth 100000
set_option linter.unusedVariables false
set_option maxHeartbeats 6400000
theorem z0N (σ:DM):(q5b σ []).down=true:=rfl
theorem rebuildnone_c (sd:Int) (rate:Nat) (w:World):Calls Tryz.prog 4 #[.int .u64 sd,.float .f64 rate] w fun e w'=>e= .returned (.bool true)∧Ext w w':=by
  have HN:=Lib.hid (DkK.new24 w 20000 (by decide) (by decide))
  go_enter Tryz.func4,Tryz.ntmps4
  go_wp2_with fail
  refine HN.out.mono ?_
  rintro e w1 ⟨g,rfl,hd⟩
  have HO:=Lib.hid (z4z hd)
  clear hd HN
  go_wp2_with fail
  refine HO.out.mono ?_
  rintro e w2 ⟨gl,rfl,hgl,⟨F,v,σ,h1,h2⟩,hs⟩
  have HX2:Hid (DkX w w2 g σ (fun _=>False)):=Lib.hid ⟨F,⟨h1.d,h1.bF,h1.ext,fun i hi=>hi.elim⟩⟩
  have hup:σ.down=false:=h2.pl.up
  clear hgl h1 h2 hs HO
  have H1:=Lib.hid (q7f w2 none gl sd rate (.inl rfl) (z7A (.inl rfl)))
  go_wp2_with fail
  refine H1.out.mono ?_
  rintro e w3 ⟨rfl,hx⟩
  have HX3:=Lib.hid (HX2.out.grow hx)
  have H2:=Lib.hid (z0d w3 (some ⟨g,0,none⟩) sd rate)
  clear hx H1
  go_wp2_with fail
  refine H2.out.mono ?_
  rintro e w3' ⟨rfl,rfl⟩
  have H3:=Lib.hid (HX3.out.crash hup)
  clear H2
  go_wp2_with fail
  refine H3.out.mono ?_
  rintro e w4 ⟨rfl,hd4,_⟩
  obtain ⟨F4,hF4⟩:=hd4
  have H4:=Lib.hid (q7f w4 (some ⟨g,0,none⟩) gl sd rate (.inr rfl) (z3c hF4.d (z0N σ)))
  have HE4:=Lib.hid hF4.ext
  clear hF4 H3
  go_wp2_with fail
  refine H4.out.mono ?_
  rintro e w5 ⟨rfl,hx⟩
  have HE5:=Lib.hid (HE4.out.trans hx)
  clear hx H4
  go_wp2_with fail
  refine (q4r w5).mono ?_
  rintro e w6 ⟨rfl,hx⟩
  have HE6:=Lib.hid (HE5.out.trans hx)
  clear hx
  go_wp2_with fail
  go_ret
  exact ⟨rfl,HE6.out⟩
end Go.Proofs.YtmajfklnagdlpaaGreatDoor
namespace Go.Proofs.YtmajfklnagdlpaaGreatDoor
open Go.RowKit
set_option maxRecDepth 100000
set_option linter.unusedVariables false
set_option maxHeartbeats 6400000
theorem z7V {wb w:World} {g gl:Nat} {c s sure:Int} {p:List UInt8} {K:Nat→Prop} (h:LgK noO wb w g gl c s [[p]] sure K) (sd:Int) (hs0:0≤sd) (hs1:sd<18446744073709551616):
    DKR wb w g gl ⟨0,0,sd,[]⟩ c s (q0q [[p]]) 1 [] [[p]] sure K:=
  h.dkr (fun k hk=>q7w (C:=[[p]]) (by show 1≤200;decide) hk) (q0S fun y hy e=>by
    obtain ⟨j,h1,h2,h3⟩:=q2C hy
    rw[e] at h3
    exact (q2Y (k:=j) (by simp at h2;omega)).1 h3.symm) sd hs0 hs1
theorem z0I :q3l [63]=none:=by decide
theorem rebuildforeign_c (payload:List UInt8) (w:World) (hp:payload.length≤9223372036854775807):Calls Tryz.prog 3 #[.string ⟨payload.toArray⟩] w fun e w'=>e= .returned (.bool true)∧Ext w w':=by
  by_cases hl:500<payload.length
  · have hd:decide ((500:Int)<(payload.length:Int))=true:=decide_eq_true (by omega)
    go_enter Tryz.func3,Tryz.ntmps3
    go_wp2_with fail
    refine (q4r w).mono ?_
    rintro e w1 ⟨rfl,hx⟩
    have HX:=Lib.hid hx
    clear hx
    go_wp2_with fail
    go_ret
    exact ⟨rfl,HX.out⟩
  have hd:decide ((500:Int)<(payload.length:Int))=false:=decide_eq_false (by omega)
  have HN:=Lib.hid (DkK.new24 w 20000 (by decide) (by decide))
  have q1:¬(9223372036854775807<([63]:List UInt8).length+payload.length):=by simp;omega
  have hap:=z7Y (20000-(q0q []:Int)) ([63]++payload) (by simp;omega) (by simp[q0q];omega)
  have HG0:Hid (payload=[]→q7C 1 [(12,[63]++payload)]=none):=Lib.hid (fun e=>by subst e;rw[List.append_nil,q7C,z0I];rfl)
  have hl5:([63]++payload).length≤501:=by simp;omega
  obtain ⟨p,hpp⟩: ∃p,[63]++payload=p:=⟨_,rfl⟩
  have HP:=Lib.hid hpp
  rw[hpp] at hap HG0 hl5
  have HAp:=Lib.hid hap
  have HSr:Hid (q3B (20000-(q0q []:Int)) 0 [] p=0):=Lib.hid (by unfold q3B;rw[if_neg fun h=>h.2.2 rfl])
  have hcat:(⟨#[63]⟩++⟨payload.toArray⟩:ByteArray)=⟨p.toArray⟩:=by rw[←HP.out,ByteArray.mk_append_mk]
  clear hap hpp
  go_enter Tryz.func3,Tryz.ntmps3
  go_wp2_with fail
  refine HN.out.mono ?_
  rintro e w1 ⟨g,rfl,hd⟩
  have HO:=Lib.hid (z4z hd)
  clear hd HN
  go_wp2_with fail
  refine HO.out.mono ?_
  rintro e w2 ⟨gl,rfl,hgl,hl,hs⟩
  have HA:=Lib.hid (z1x hl p (by omega) HAp.out HSr.out)
  clear hl hs HO
  go_wp2_with fail
  refine HA.out.mono ?_
  rintro e w3 ⟨rfl,h3,hs⟩
  have HR:=Lib.hid (q6Y (sd:=1) (z7V h3 1 (by decide) (by decide)) (Nat.zero_le _) (by rw[z8C];show 0+8*1≤40000;omega) (by decide) (by decide) 4591870180066957722)
  clear h3 hs HA hcat
  go_wp2_with fail
  refine HR.out.mono ?_
  have HF:Hid (q1Q [[p]] 0=[(12,p)]):=Lib.hid (z2T p (by decide))
  rintro e w4 ⟨⟨gx,m2,B2,D,an,rfl,hi,hr,hw⟩|⟨rfl,hx,hb⟩,hs⟩
  · have hne:¬payload=[]:=fun e0=>by
      have h0:=HG0.out e0
      rcases hw with ⟨_,_,_,_,hp0,_⟩|⟨_,rfl,_⟩
      · exact absurd hp0 (by decide)
      · rw[show (⟨0,0,1,[]⟩:Man).ck=0 from rfl,HF.out,h0] at hr
        cases hr
    have HX:=Lib.hid hi.base
    clear hi hr hw hs HR
    go_wp2_with fail
    refine (q4r w4).mono ?_
    rintro e w5 ⟨rfl,hx⟩
    have HX5:=Lib.hid (HX.out.trans hx)
    clear hx
    go_wp2_with fail
    go_ret
    exact ⟨rfl,HX5.out⟩
  · have HX:=Lib.hid hx
    clear hx hb hs HR
    by_cases he:payload=[]
    all_goals
      go_wp2_with fail
      refine (q4r w4).mono ?_
      rintro e w5 ⟨rfl,hx⟩
      have HX5:=Lib.hid (HX.out.trans hx)
      clear hx
      go_wp2_with fail
      go_ret
      exact ⟨rfl,HX5.out⟩
end Go.Proofs.YtmajfklnagdlpaaGreatDoor
