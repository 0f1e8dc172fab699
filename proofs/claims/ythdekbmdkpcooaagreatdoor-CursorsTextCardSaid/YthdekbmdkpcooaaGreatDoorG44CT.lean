/- Walks. -/
import Derived.Test.YthdekbmdkpcooaaGreatDoorG43CT
set_option linter.unusedVariables false
set_option linter.unusedSimpArgs false
set_option maxRecDepth 100000
set_option maxHeartbeats 6400000
namespace Go.Proofs.YthdekbmdkpcooaaGreatDoor
theorem η44 {p:Prop} (h:p):Go.RowKit.Hid p:=Lib.hid h
section
open Go.RowKit
section
variable {wb w W W':World} {g gx gl rate:Nat} {m:Man} {ws:List En} {c s:Int} {u cnt:Nat} {B:List En} {C C':Cks} {sure:Int} {K K':Nat→Prop} {st:IxSt} {σ:DM} {φ:Fls}
theorem PInv.cleanL (h:PInv st σ c s φ u cnt B):{σ with L:=σ.L.filter fun f=>!q1X st.m.L.flatten f.nm}=σ:=by
 have h1:=h.noOrph;unfold q1Z at h1;rw[List.filter_map,List.map_eq_nil_iff,List.filter_eq_nil_iff] at h1;have h2:(σ.L.filter fun f=>!q1X st.m.L.flatten f.nm)=σ.L:=List.filter_eq_self.2 fun f hf=>by
  have:=h1 f hf;simp only[Function.comp] at this
  simpa using this
 rw[h2]
theorem IXG.clean (h:IXG wb W g gx gl rate m ws c s u cnt B C sure K) {ao:Option Addr} {cap:Nat} (hG:Grid W ao m.L.length cap m.L) (nx ck sd:Int):
  Calls Tryz.prog 117 #[.pointer (some ⟨g,0,none⟩),.agg #[.int .i64 nx,.int .i64 ck,.int .u64 sd,.slice ao m.L.length cap]] W fun e w'=>e= .returned (.int .i64 0)∧IXG wb w' g gx gl rate m ws c s u cnt B C sure K∧Stay K W w':=by
 obtain ⟨st,σ,φ,gv,rfl,rfl,h3,h4,h5,⟨h6,h6m⟩,h7,h8⟩:=h;have hb:=Man.bounds h6.man;have hup:σ.down=false:=h6.fl.up;have hfine:σ.fail=false:=by obtain ⟨l,hpl,_⟩:=h6.fl;exact hpl.fine
 refine (h5.disk (σ1:=σ) (R:=fun e=>e= .returned (.int .i64 0)) fun F hd=>?_).mono ?_
 ·have hc:=z5B hd hup hfine h6.shortN (nx:=nx) (ck:=ck) (sd:=sd) hG (by have:=hb.2.1;omega)
  rw[h6.cleanL] at hc;exact hc
 ·rintro e w' ⟨he,k1,k2⟩
  exact ⟨he,⟨st,σ,φ,gv,rfl,rfl,h3,h4,k1,⟨h6,h6m⟩,⟨h7.1.same fun i hi=>k2 i (.inr hi),h7.2⟩,h8⟩,fun i hi=>k2 i (.inl hi)⟩
end
end
section
open Go.RowKit
section
variable {wb w W W':World} {g gx gl rate:Nat} {m:Man} {ws:List En} {c s:Int} {u cnt:Nat} {B:List En} {C C':Cks} {sure:Int} {K K':Nat→Prop} {st:IxSt} {σ:DM} {φ:Fls}
theorem DKR.man (h:DKR wb W g gl m c s u cnt B C sure K):m.ok:=by obtain ⟨st,σ,φ,gv,F,rfl,hw,hF,⟨h6,h6m,h6c⟩,h7,h8⟩:=h;exact h6.man
theorem DKR.klt (h:DKR wb W g gl m c s u cnt B C sure K): ∀i,K i→i<W.heap.size:=by obtain ⟨st,σ,φ,gv,F,rfl,hw,hF,⟨h6,h6m,h6c⟩,h7,h8⟩:=h;exact fun i hi=>(hF.k i (.inl hi)).1
theorem DKR.grow (h:DKR wb W g gl m c s u cnt B C sure K) (k:Ext W W'):DKR wb W' g gl m c s u cnt B C sure K:=by
 obtain ⟨st,σ,φ,gv,F,rfl,hw,hF,h6,h7,h8⟩:=h;exact ⟨st,σ,φ,gv,F,rfl,hw,hF.grow k,h6,⟨h7.1.ext k,h7.2⟩,h8⟩
theorem DKR.kExt (h:DKR wb W g gl m c s u cnt B C sure K) (k:Ext W W'):Stay K W W':=fun i hi=>k.block i (h.klt i hi)
def Man.cut (m:Man):Man:=⟨m.nx,m.ck,m.sd,q0p m.L⟩
theorem Man.cut_S {m:Man} (h:m.ok):m.cut.S=m.S:=by
 show (q3H m.nx m.ck m.sd (q0p m.L)).1=_;rw[z0d h.1];rfl
theorem DKR.cut (h:DKR wb W g gl m c s u cnt B C sure K):DKR wb W g gl m.cut c s u cnt B C sure K:=by
 obtain ⟨st,σ,φ,gv,F,rfl,hw,hF,⟨h6,h6m,h6c⟩,h7,h8⟩:=h;have hf:st.m.cut.L.flatten=st.m.L.flatten:=q1h _;refine ⟨{st with m:=st.m.cut},σ,φ,gv,F,rfl,hw,hF,⟨⟨h6.fl,⟨q4p h6.man.1,h6.man.2⟩,fun n hn=>h6.full n (by rw[←hf];exact hn),fun n e he=>?_,fun nm hnm=>?_,h6.okw,h6.okB,h6.mem⟩,?_,h6c⟩,h7,h8⟩
 ·show n∈st.m.cut.L.flatten∧_
  rw[hf];exact h6.tb n e he
 ·show nm=mapN∨(∃n∈st.m.cut.L.flatten,_)∨_
  rw[hf];exact h6.only nm hnm
 ·rcases h6m with ⟨h,hp⟩|⟨h1,h2,h3,h4⟩
  ·exact .inl ⟨by rw[Man.cut_S h6.man];exact h,hp⟩
  ·exact .inr ⟨h1,h2,h3,by show q0p st.m.L=[];rw[h4];rfl⟩
theorem DKR.load (h:DKR wb W g gl m c s u cnt B C sure K):Calls Tryz.prog 176 #[.pointer (some ⟨g,0,none⟩)] W fun e w'=>
  ((∃ao cap,e= .returned (.tuple #[.agg #[.int .i64 m.nx,.int .i64 m.ck,.int .u64 m.sd,.slice ao (q0p m.L).length cap],.int .i64 0])∧Grid w' ao (q0p m.L).length cap (q0p m.L)∧0<m.nx)∨
   (∃ao cap,e= .returned (.tuple #[.agg #[.int .i64 0,.int .i64 0,.int .u64 0,.slice ao 0 cap],.int .i64 4])∧m.nx=0∧m.ck=0∧m.L=[]))∧
  DKR wb w' g gl m c s u cnt B C sure K∧Stay K W w':=by
 obtain ⟨st,σ,φ,gv,F,rfl,hw,hF,⟨h6,h6m,h6c⟩,h7,h8⟩:=h;obtain ⟨l,hpl,hord,hfun,hus,hln⟩:=h6.fl
 cases hf:q0H FM.nm mapN σ.L with
 | none=>
  have h0:φ mapN=none:=by rw[←hfun,hpl.find,hf];rfl
  rcases h6m with ⟨h,hp⟩|⟨h1,h2,h3,h4⟩
  ·rw[h0] at h;cases h
  ·refine (z6X hF.d (by unfold q1W;rw[if_neg (by rw[hpl.up];decide),hf])).mono ?_
   rintro e w' ⟨a,cc,rfl,hg,hd⟩;obtain ⟨k1,k2⟩:=hF.disk hd;exact ⟨.inr ⟨a,cc,rfl,h2,h3,h4⟩,⟨st,σ,φ,gv,_,rfl,hw,k1,⟨h6,.inr ⟨h1,h2,h3,h4⟩,h6c⟩,⟨h7.1.same fun i hi=>k2 i (.inr hi),h7.2⟩,h8⟩,fun i hi=>k2 i (.inl hi)⟩
 | some f=>
  have h0:φ mapN=some f.da:=by rw[←hfun,hpl.find,hf];rfl
  rcases h6m with ⟨h,hp⟩|⟨h1,h2,h3,h4⟩
  ·have hda:f.da=st.m.S:=by rw[h0] at h;injection h
   have hgot:q2y f.da=⟨st.m.nx,st.m.ck,st.m.sd,q0p st.m.L,0⟩:=by
    rw[hda];show q2y (q3H st.m.nx st.m.ck st.m.sd st.m.L).1=_;rw[q8D h6.man.1];exact z6q h6.man.1 h6.man.2.1 h6.man.2.2
   refine (z4t hF.d hf hpl.up).mono ?_;rw[hgot];rintro e w' ⟨a,cc,rfl,hg,hd⟩;obtain ⟨k1,k2⟩:=hF.disk hd;have h6':PInv st (q2N σ) c s φ u cnt B:=⟨Fl.tells 1 h6.fl,h6.man,h6.full,h6.tb,h6.only,h6.okw,h6.okB,h6.mem⟩
   exact ⟨.inl ⟨a,cc,rfl,hg,hp⟩,⟨st,q2N σ,φ,gv,_,rfl,hw,k1,⟨h6',.inl ⟨h,hp⟩,h6c⟩,⟨h7.1.same fun i hi=>k2 i (.inr hi),h7.2⟩,h8⟩,fun i hi=>k2 i (.inl hi)⟩
  ·rw[h0] at h1;cases h1
end
end
section
open Go.RowKit
section
variable {wb w W W':World} {g gx gl:Nat} {m:Man} {ws:List En} {c s:Int} {u cnt:Nat} {B:List En} {C C':Cks} {sure:Int} {K K':Nat→Prop} {st:IxSt} {σ:DM} {φ:Fls}
theorem DKR.ends (h:DKR wb W g gl m c s u cnt B C sure K):Calls Tryz.prog 113 #[.pointer (some ⟨gl,0,none⟩)] W fun e w'=>e= .returned (.int .i64 (q4r C))∧Ext W w':=by
 obtain ⟨st,σ,φ,gv,F,h1,hw,hF,h6,h7,h8⟩:=h;exact (z9d h7.1 h7.2).mono fun e w' ⟨h,k⟩=>⟨h,k▸Ext.refl _⟩
def LyR (wb W:World) (g gl:Nat) (rate:Nat) (m:Man) (c s:Int) (u cnt:Nat) (B:List En) (C:Cks) (sure:Int) (K:Nat→Prop) (sd:Int) (e:Ending) (w':World):Prop:=
 ((∃gx B2,e= .returned (.tuple #[.pointer (some ⟨gx,0,none⟩),.int .i64 0])∧IXG wb w' g gx gl rate m.cut [] c s u cnt B2 C sure K∧(∀x,x∈B↔x∈B2)∧m.sd=sd∧m.ck≤q4r C∧0<m.nx)∨
  (∃n:Int,e= .returned (.tuple #[.pointer none,.int .i64 n])∧(n=4∨n=90)∧DKR wb w' g gl m c s u cnt B C sure K∧((m.nx=0∧m.ck=0∧m.L=[])∨m.sd≠sd∨q4r C<m.ck)))∧Stay K W w'
theorem z8i (h:DKR wb w g gl m c s u cnt B C sure K) (hcn:m.L.flatten.length≤cnt) (sd:Int) (rate:Nat):
  Calls Tryz.prog 114 #[.pointer (some ⟨g,0,none⟩),.pointer (some ⟨gl,0,none⟩),.int .u64 sd,.float .f64 rate] w (LyR wb w g gl rate m c s u cnt B C sure K sd):=by
 have HLo:=η44 h.load;clear h;go_enter Tryz.func114,Tryz.ntmps114;go_wp2_with fail;refine HLo.out.mono ?_;rintro e w1 ⟨hl,hd,hs⟩;clear HLo;have HD:=η44 hd;have HS:=η44 hs;rcases hl with ⟨ao,cp,rfl,hg,hpos⟩|⟨ao,cp,rfl,z⟩
 ·have HG:=η44 hg
  have hx:=q0B w1 (.cells #[.int .i64 m.nx,.int .i64 m.ck,.int .u64 m.sd,.slice ao (q0p m.L).length cp] 148);have hb:=Blk.new w1 148 #[.int .i64 m.nx,.int .i64 m.ck,.int .u64 m.sd,.slice ao (q0p m.L).length cp];have HD2:=η44 (hd.grow hx);have HS2:=η44 (hs.trans (hd.kExt hx));have HG2:=η44 (hg.ext hx);have HB2:=η44 hb;clear hd hs hg hx hb;go_wp2_with fail;generalize w1.alloc (.cells #[.int .i64 m.nx,.int .i64 m.ck,.int .u64 m.sd,.slice ao (q0p m.L).length cp] 148)=w2 at*;generalize w1.heap.size=q at*;have c0:w2.cell? ⟨q,0,none⟩=some (.int .i64 m.nx):=HB2.out.cell 0;have c1:w2.cell? ⟨q,1,none⟩=some (.int .i64 m.ck):=HB2.out.cell 1;have c2:w2.cell? ⟨q,2,none⟩=some (.int .u64 m.sd):=HB2.out.cell 2;have c3:w2.cell? ⟨q,3,none⟩=some (.slice ao (q0p m.L).length cp):=HB2.out.cell 3;have u0:=q0F c0;have u1:=q0F c1;have u2:=q0F c2;have u3:=q0F c3;have HE:=η44 (fun W (k:Ext w2 W)=>(HD2.out.grow k).ends)
  by_cases hsd:m.sd=sd
  ·subst hsd
   by_cases hck:q4r C<m.ck
   ·have hdk:decide (q4r C<m.ck)=true:=decide_eq_true hck
    refine q0E (by kernel_rfl) (by kernel_rfl) ?_
    repeat (go_big_quiet_step (fail))
    go_big_quiet_step (exact Calls.quiet_ext (HE.out _ (ExtOf.h _)))
    repeat (go_big_quiet_step (fail))
    refine wpQuiet_nil ?_;intro w3 hw;have HD3:=η44 (HD2.out.grow hw);have HS3:=η44 (HS2.out.trans (HD2.out.kExt hw));have HCk:=η44 hck;clear hw hck c0 c1 c2 c3 u0 u1 u2 u3;go_wp2_with fail;go_ret2;exact ⟨.inr ⟨90,rfl,.inr rfl,HD3.out,.inr (.inr HCk.out)⟩,HS3.out⟩
   ·have hdk:decide (q4r C<m.ck)=false:=decide_eq_false hck
    refine q0E (by kernel_rfl) (by kernel_rfl) ?_
    repeat (go_big_quiet_step (fail))
    go_big_quiet_step (exact Calls.quiet_ext (HE.out _ (ExtOf.h _)))
    repeat (go_big_quiet_step (fail))
    refine wpQuiet_nil ?_;intro w3 hw;have HD3:=η44 (HD2.out.grow hw);have HS3:=η44 (HS2.out.trans (HD2.out.kExt hw));have HG3:=η44 (HG2.out.ext hw);have HO:=η44 (HD3.out.cut.iopen (ao:=ao) (cap:=cp) HG3.out (by show (q0p m.L).flatten.length≤cnt;rw[q1h];exact hcn) rate);have hb3:=HB2.out.ext hw;have c0':w3.cell? ⟨q,0,none⟩=some (.int .i64 m.nx):=hb3.cell 0;have c1':w3.cell? ⟨q,1,none⟩=some (.int .i64 m.ck):=hb3.cell 1;have c2':w3.cell? ⟨q,2,none⟩=some (.int .u64 m.sd):=hb3.cell 2;have c3':w3.cell? ⟨q,3,none⟩=some (.slice ao (q0p m.L).length cp):=hb3.cell 3;have HCk:=η44 hck;clear hw hck c0 c1 c2 c3 u0 u1 u2 u3 hb3;go_wp2_with fail;refine HO.out.mono ?_;rintro e w4 ⟨gx,B2,rfl,hi,hm,hst⟩;have HI:=η44 hi;have HM:=η44 hm;have HS4:=η44 (HS3.out.trans hst);clear hi hm hst HO;go_wp2_with fail;go_ret2;exact ⟨.inl ⟨gx,B2,rfl,HI.out,HM.out,rfl,by have:=HCk.out;omega,hpos⟩,HS4.out⟩
  ·have hnb:(m.sd !=sd)=true:=by simpa using hsd
   have HNe:=η44 hsd;refine q0E (by kernel_rfl) (by kernel_rfl) ?_
   repeat (go_big_quiet_step (fail))
   (try rw[hnb])
   repeat (go_big_quiet_step (fail))
   refine wpQuiet_nil ?_;intro w3 hw;have HD3:=η44 (HD2.out.grow hw);have HS3:=η44 (HS2.out.trans (HD2.out.kExt hw));clear hw hsd c0 c1 c2 c3 u0 u1 u2 u3;go_wp2_with fail;go_ret2;exact ⟨.inr ⟨90,rfl,.inr rfl,HD3.out,.inr (.inl HNe.out)⟩,HS3.out⟩
 ·have HD2:=η44 (hd.grow (q0B w1 (.cells #[.int .i64 0,.int .i64 0,.int .u64 0,.slice ao 0 cp] 148)))
  have HS2:=η44 (hs.trans (hd.kExt (q0B w1 (.cells #[.int .i64 0,.int .i64 0,.int .u64 0,.slice ao 0 cp] 148))));have HZ:=η44 z;clear hd hs z;go_wp2_with fail;go_ret2;exact ⟨.inr ⟨4,rfl,.inl rfl,HD2.out,.inl HZ.out⟩,HS2.out⟩
end
end
section
open Go.RowKit
theorem q9X (p:List UInt8×List UInt8→Bool) (l:List (List UInt8×List UInt8)):q2M (l.filter p)≤q2M l:=by
 induction l with
 |nil=>exact Nat.le_refl _
 | cons x l ih=>
  have h1: ∀t,q2M (x::t)=q2M [x]+q2M t:=fun t=>by rw[←q1J];rfl
  cases hp:p x with
  |true=>rw[List.filter_cons_of_pos hp,h1,h1 l];omega
  |false=>rw[List.filter_cons_of_neg (by simp[hp]),h1];omega
theorem z5y (q:List UInt8→Bool) (l:List (List UInt8×List UInt8)) (nm:List UInt8):q0H Prod.fst nm (l.filter fun y=>q y.1)=if q nm=true then q0H Prod.fst nm l else none:=by
 induction l with
 |nil=>unfold q0H;simp
 | cons x l ih=>
  unfold q0H at ih⊢
  cases hq:q x.1 with
  | true=>
   rw[List.filter_cons,if_pos hq,List.find?_cons,List.find?_cons,ih];by_cases hx:(x.1==nm)=true
   ·rw[hx]
    have:x.1=nm:=by simpa using hx
    rw[this] at hq;simp[hq]
   ·rw[Bool.not_eq_true] at hx
    rw[hx]
  | false=>
   rw[List.filter_cons,if_neg (by simp[hq]),List.find?_cons,ih];by_cases hx:(x.1==nm)=true
   ·have:x.1=nm:=by simpa using hx
    rw[this] at hq;simp[hq]
   ·rw[Bool.not_eq_true] at hx
    rw[hx]
theorem Fl.filt {σ:DM} {c s:Int} {φ:Fls} {u cnt:Nat} (h:Fl σ c s φ u cnt) (q:List UInt8→Bool):Fl {σ with L:=σ.L.filter fun f=>q f.nm} c s (fun nm=>if q nm=true then φ nm else none) u cnt:=by
 obtain ⟨l,a1,a2,a3,a4,a5⟩:=h;refine ⟨l.filter fun y=>q y.1,⟨a1.up,a1.fine,?_,a1.cap,a1.st⟩,a2.filter _,fun nm=>?_,Nat.le_trans (q9X _ _) a4,Nat.le_trans (List.length_filter_le _ _) a5⟩
 ·rw[←a1.files,List.filter_map];rfl
 ·rw[z5y]
  cases hq:q nm with
  |true=>simp only[hq,if_true];exact a3 nm
  |false=>simp[hq]
def y1O (φ:Fls):Prop:=φ mapN=none∧ ∀nm,φ nm≠none→(∃l n,(l=116∨l=98)∧(0≤n∧n≤999999)∧nm=q0G l n)∨ ∃k:Nat,k≤999999∧nm=q0G 99 (k:Int)
def DKO (wb W:World) (g gl:Nat) (c s:Int) (u cnt:Nat) (C:Cks) (sure:Int) (K:Nat→Prop):Prop:=
 ∃σ φ gv F,DkF wb W g F σ (fun i=>K i∨q7t gl gv i)∧(Fl σ c s φ u cnt∧y1O φ∧q9N φ C)∧(LogM W gl g s gv (q0M C) sure∧okC C)∧(∀i,q7t gl gv i→¬K i∧wb.heap.size≤i)
def IXO (wb W:World) (g gx gl:Nat) (rate:Nat) (sd:Int) (c s:Int) (u cnt:Nat) (C:Cks) (sure:Int) (K:Nat→Prop):Prop:=
 (0≤sd∧sd<18446744073709551616)∧ ∃t σ φ gv,(∀n,t n=none)∧IxK wb W g gx ⟨⟨0,0,sd,[]⟩,rate,[],t,0⟩ σ (fun i=>K i∨q7t gl gv i)∧(Fl σ c s φ u cnt∧y1O φ∧q9N φ C)∧(LogM W gl g s gv (q0M C) sure∧okC C)∧(∀i,q7t gl gv i→¬K i∧wb.heap.size≤i)
section
variable {wb w W W':World} {g gx gl rate:Nat} {m:Man} {ws:List En} {c s:Int} {u cnt:Nat} {B:List En} {C C':Cks} {sure:Int} {K K':Nat→Prop} {st:IxSt} {σ:DM} {φ:Fls}
theorem DKR.gone (h:DKR wb W g gl m c s u cnt B C sure K):Calls Tryz.prog 109 #[.pointer (some ⟨g,0,none⟩),.string ⟨mapN.toArray⟩] W fun e w'=>
  (e= .returned (.int .i64 0)∨e= .returned (.int .i64 4))∧DKO wb w' g gl c s u cnt C sure K∧Stay K W w':=by
 obtain ⟨st,σ,φ,gv,F,rfl,hw,hF,⟨h6,h6m,h6c⟩,h7,h8⟩:=h;have honly: ∀nm,nm≠mapN→φ nm≠none→(∃l n,(l=116∨l=98)∧(0≤n∧n≤999999)∧nm=q0G l n)∨ ∃k:Nat,k≤999999∧nm=q0G 99 (k:Int):=fun nm hne hn=>by
  rcases h6.only nm hn with e|⟨n,hn,e⟩|e
  ·exact absurd e hne
  ·have:=h6.range hn
   rcases e with e|e
   ·exact .inl ⟨116,n,.inl rfl,⟨this.1,this.2.1⟩,e⟩
   ·exact .inl ⟨98,n,.inr rfl,⟨this.1,this.2.1⟩,e⟩
  ·exact .inr e
 refine (z2W hF.d mapN (by decide)).mono ?_;rintro e w' ⟨rfl,hd⟩;obtain ⟨k1,k2⟩:=hF.disk hd
 cases h0:φ mapN with
 | none=>
  have hdel:q1S σ mapN=(4,σ):=by
   obtain ⟨l,a1,a2,a3,_⟩:=h6.fl;exact a1.deleteN (Fl.noFind a3 h0)
  rw[hdel] at k1⊢;exact ⟨.inr rfl,⟨σ,φ,gv,_,k1,⟨h6.fl,⟨h0,fun nm hn=>honly nm (fun e=>hn (by rw[e];exact h0)) hn⟩,h6c⟩,⟨h7.1.same fun i hi=>k2 i (.inr hi),h7.2⟩,h8⟩,fun i hi=>k2 i (.inl hi)⟩
 | some t=>
  obtain ⟨σ',e1,hfl⟩:=h6.fl.del h0;rw[e1] at k1⊢;refine ⟨.inl rfl,⟨σ',z8p φ mapN,gv,_,k1,⟨hfl,⟨by unfold z8p;rw[if_pos rfl],fun nm hn=>?_⟩,fun k hk=>?_⟩,⟨h7.1.same fun i hi=>k2 i (.inr hi),h7.2⟩,h8⟩,fun i hi=>k2 i (.inl hi)⟩
  ·unfold z8p at hn
   by_cases he:nm=mapN
   ·rw[if_pos he] at hn;exact absurd rfl hn
   ·rw[if_neg he] at hn;exact honly nm he hn
  ·unfold z8p
   rw[if_neg (q3X hk).1];exact h6c k hk
theorem DKO.iopen (h:DKO wb W g gl c s u cnt C sure K) (sd:Int) (hs0:0≤sd) (hs1:sd<18446744073709551616) (rate:Nat):
  Calls Tryz.prog 115 #[.pointer (some ⟨g,0,none⟩),.agg #[.int .i64 0,.int .i64 0,.int .u64 sd,.slice none 0 0],.float .f64 rate] W fun e w'=>
   ∃gx,e= .returned (.tuple #[.pointer (some ⟨gx,0,none⟩),.int .i64 0])∧IXO wb w' g gx gl rate sd c s u cnt C sure K∧Stay K W w':=by
 obtain ⟨σ,φ,gv,F,hF,h6,h7,h8⟩:=h;refine (z5X (m:=⟨0,0,sd,[]⟩) hF (ao:=none) (cap:=0) (Grid.empty W) (Nat.zero_le _) (fun x hx=>by cases hx) hs0 hs1 rate).mono ?_;have hv:q0d 0 0 []=true:=by decide
 rintro e w' (⟨q1,_⟩|⟨_,q1,_⟩|⟨_,_,q1,_⟩|⟨_,_,_,gx,t,rfl,q1,q2,q3⟩)
 ·rw[show q0d (⟨0,0,sd,[]⟩:Man).nx (⟨0,0,sd,[]⟩:Man).ck (⟨0,0,sd,[]⟩:Man).L=true from hv] at q1;cases q1
 ·rw[h6.1.up] at q1;cases q1
 ·exact absurd rfl q1
 ·have ht: ∀n,t n=none:=fun n=>by
   have:=q3 n
   cases hn:t n with
   |none=>rfl
   |some e=>rw[hn] at this;cases this
  exact ⟨gx,rfl,⟨⟨hs0,hs1⟩,t,σ,φ,gv,ht,q1,h6,⟨h7.1.same fun i hi=>q2 i (.inr hi),h7.2⟩,h8⟩,fun i hi=>q2 i (.inl hi)⟩
end
end
section
open Go.RowKit
section
variable {wb w W W':World} {g gx gl rate:Nat} {m:Man} {ws:List En} {c s:Int} {u cnt:Nat} {B:List En} {C C':Cks} {sure sd:Int} {K K':Nat→Prop} {st:IxSt} {σ:DM} {φ:Fls}
theorem z5D {l:UInt8} (hl:l=116∨l=98) {n:Int} (hr:0≤n∧n≤999999):q1X [] (q0G l n)=true:=by
 have hL:q1s l=true:=by rcases hl with rfl|rfl<;>decide
 have hp:=q1u hL hr;unfold q1X;rw[hp];rcases hl with rfl|rfl<;>simp
theorem IXO.tells (h:IXO wb W g gx gl rate sd c s u cnt C sure K):Calls Tryz.prog 116 #[.pointer (some ⟨gx,0,none⟩)] W fun e w'=>
  ∃v vs,e= .returned (.agg #[.int .i64 0,.int .i64 0,.int .u64 sd,v])∧OGr w' W.heap.size 36 3 v vs []∧Ext W w':=by
 obtain ⟨hs,t,σ,φ,gv,ht,⟨F,gm,gt,Y,q⟩,h6,h7,h8⟩:=h;exact q6t q.i.x
theorem IXO.grow (h:IXO wb W g gx gl rate sd c s u cnt C sure K) (k:Ext W W'):IXO wb W' g gx gl rate sd c s u cnt C sure K:=by
 obtain ⟨hs,t,σ,φ,gv,ht,hx,h6,h7,h8⟩:=h;exact ⟨hs,t,σ,φ,gv,ht,hx.grow k,h6,⟨h7.1.ext k,h7.2⟩,h8⟩
theorem IXO.kExt (h:IXO wb W g gx gl rate sd c s u cnt C sure K) (k:Ext W W'):Stay K W W':=by
 obtain ⟨hs,t,σ,φ,gv,ht,hx,h6,h7,h8⟩:=h;exact fun i hi=>hx.kExt k i (.inl hi)
theorem IXO.clean (h:IXO wb W g gx gl rate sd c s u cnt C sure K) {ao:Option Addr} {cap:Nat} (hG:Grid W ao 0 cap []):
  Calls Tryz.prog 117 #[.pointer (some ⟨g,0,none⟩),.agg #[.int .i64 0,.int .i64 0,.int .u64 sd,.slice ao 0 cap]] W fun e w'=>e= .returned (.int .i64 0)∧IXG wb w' g gx gl rate ⟨0,0,sd,[]⟩ [] c s u cnt [] C sure K∧Stay K W w':=by
 obtain ⟨⟨hs0,hs1⟩,t,σ,φ,gv,ht,h5,⟨hfl,⟨hm0,hon⟩,hck⟩,h7,h8⟩:=h;have hup:σ.down=false:=hfl.up;have hfine:σ.fail=false:=by obtain ⟨l,hpl,_⟩:=hfl;exact hpl.fine
 have hsh: ∀x∈q1Z σ,x.length≤9223372036854775807:=fun x hx=>by
  have hx2:φ x≠none:=by
   obtain ⟨l,h1,_,h2,_⟩:=hfl;rw[h1.names] at hx;rw[←h2 x];obtain ⟨y,hy,rfl⟩:=List.mem_map.1 hx;intro hn
   cases hf:q0H Prod.fst y.1 l with
   |some z=>rw[hf] at hn;cases hn
   |none=>exact q1v hf y hy rfl
  rcases hon x hx2 with ⟨l,n,_,hn,rfl⟩|⟨k,hk,rfl⟩
  ·rw[q0X hn,List.length_cons,q0f];decide
  ·rw[q0X (by omega),List.length_cons,q0f];decide
 refine (h5.disk (σ1:={σ with L:=σ.L.filter fun f=>!q1X [] f.nm}) (R:=fun e=>e= .returned (.int .i64 0)) fun F hd=>z5B hd hup hfine hsh (nx:=0) (ck:=0) (sd:=sd) hG (by simp)).mono ?_;rintro e w' ⟨he,k1,k2⟩;have hv:q0d 0 0 []=true:=by decide
 have hfl2:=hfl.filt (fun nm=>!q1X [] nm);refine ⟨he,⟨_,_,_,gv,rfl,rfl,rfl,Nat.zero_le _,k1,⟨⟨hfl2,⟨hv,hs0,hs1⟩,(fun n hn=>by cases hn),(fun n e he=>by simp only at he;rw[ht n] at he;cases he),fun nm hnm=>?_,okM.nil,okM.nil,fun x=>?_⟩,.inr ⟨?_,rfl,rfl,rfl⟩,fun k hk=>?_⟩,⟨h7.1.same fun i hi=>k2 i (.inr hi),h7.2⟩,h8⟩,fun i hi=>k2 i (.inl hi)⟩
 ·by_cases hq:(!q1X [] nm)=true
  ·simp only[hq,if_true] at hnm
   rcases hon nm hnm with ⟨l,n,hl,hn,rfl⟩|e
   ·rw[z5D hl hn] at hq;cases hq
   ·exact .inr (.inr e)
  ·simp only[hq] at hnm
   exact absurd rfl hnm
 ·constructor
  ·intro hx;cases hx
  ·rintro (hx|⟨n,e,he,_⟩)
   ·cases hx
   ·simp only at he;rw[ht n] at he;cases he
 ·simp only[z2Y];exact hm0
 ·simp only[q8I hk];exact hck k hk
end
end
section
open Go.RowKit
section
variable {wb w W W':World} {g gx gl:Nat} {m:Man} {ws:List En} {c s:Int} {u cnt:Nat} {B:List En} {C C':Cks} {sure sd:Int} {K K':Nat→Prop} {st:IxSt} {σ:DM} {φ:Fls}
theorem z2o (C:Cks) (pos:Int):(q2J C pos).length≤(q0y 0 C).length:=List.length_filter_le _ _
theorem z6t {B B2:List En} (h:okM B2) (k: ∀x,x∈B↔x∈B2):B2.length≤B.length:=
 q6P (h.sort.imp fun {a b} hab e=>by subst e;rw[q0Z] at hab;cases hab) fun x hx=>(k x).2 hx
theorem IXO.more {rate:Nat} (h:IXO wb W g gx gl rate sd c s u cnt C sure K) (k:Ext W W') (hK: ∀i,K' i→K i∨(W.heap.size≤i∧i<W'.heap.size)):IXO wb W' g gx gl rate sd c s u cnt C sure K':=by
 obtain ⟨hs,t,σ,φ,gv,ht,h5,h6,h7,h8⟩:=h;refine ⟨hs,t,σ,φ,gv,ht,h5.more k (fun i hi=>?_),h6,⟨h7.1.ext k,h7.2⟩,fun i hi=>⟨fun hk=>?_,(h8 i hi).2⟩⟩
 ·rcases hi with hi|hi
  ·exact (hK i hi).imp .inl id
  ·exact .inl (.inr hi)
 ·rcases hK i hk with h10|⟨h10,_⟩
  ·exact (h8 i hi).1 h10
  ·have:=h7.1.lt hi;omega
def y2O (wb W:World) (g gl:Nat) (rate:Nat) (m:Man) (c s:Int) (u cnt:Nat) (B:List En) (C:Cks) (sure:Int) (K:Nat→Prop) (sd:Int) (e:Ending) (w':World):Prop:=
 ((∃ gx m' B2 D an,e= .returned (.tuple #[.pointer (some ⟨gx,0,none⟩),.bool an,.int .i64 0])∧IXG wb w' g gx gl rate m' (q1Q D []) c s u cnt (q1Q D B2) C sure K∧z0i sd (q2J C m'.ck)=some D∧
   ((an=false∧m'=m.cut∧m.sd=sd∧m.ck≤q4r C∧0<m.nx∧ ∀x,x∈B↔x∈B2)∨(an=true∧m'=⟨0,0,sd,[]⟩∧B2=[]∧((m.nx=0∧m.ck=0∧m.L=[])∨m.sd≠sd∨q4r C<m.ck))))∨
  (e= .returned (.tuple #[.pointer none,.bool false,.int .i64 63])∧Ext wb w'∧((m.sd=sd∧z0i sd (q2J C m.ck)=none)∨z0i sd (q2J C 0)=none)))∧Stay K W w'
theorem z9x (h:DKR wb w g gl m c s u cnt B C sure K) (hcn:m.L.flatten.length≤cnt) (hB:B.length+8*(q0y 0 C).length≤40000) (hs0:0≤sd) (hs1:sd<18446744073709551616) (rate:Nat):
  Calls Tryz.prog 66 #[.pointer (some ⟨g,0,none⟩),.pointer (some ⟨gl,0,none⟩),.int .u64 sd,.float .f64 rate] w (y2O wb w g gl rate m c s u cnt B C sure K sd):=by
 have hman:=h.man;have hb:=Man.bounds hman;have HLy:=η44 (z8i h hcn sd rate);have HBl:=η44 hB;have hfd: ∀(W:World) (x y z t:Value),(Instr.field 148 (.agg #[x,y,z,t]) 2).run Tryz.prog W= .ok z W:=fun _ _ _ _ _=>rfl
 clear h hB;go_enter Tryz.func66,Tryz.ntmps66;go_wp2_with fail;refine HLy.out.mono ?_;rintro e w1 ⟨hl,hst⟩;have HS:=η44 hst;clear hst HLy;rcases hl with ⟨gx,B2,rfl,hi,hm,hsd,hck,hpos⟩|⟨n,rfl,hn,hd,hwhy⟩
 ·have HM:=η44 hm
  have HLen:=η44 (z6t hi.okB.1 hm);obtain ⟨M,hM⟩: ∃M,m.cut=M:=⟨_,rfl⟩
  have HMc:=η44 hM;have HMk:Hid (M.ck=m.ck):=η44 (by rw[←hM];rfl);have HMs:Hid (M.sd=sd):=η44 (by rw[←hM,←hsd];rfl);have HM0:Hid (0≤M.ck):=η44 (by rw[HMk.out];omega);have HM1:Hid (M.ck≤9223372036854775807):=η44 (by rw[HMk.out];omega);rw[hM] at hi;have HI:=η44 hi;clear hi hm hM;have HT:=η44 HI.out.tells;go_wp2_with fail;refine HT.out.mono ?_;rintro e w2 ⟨v,vs,rfl,ho,hx⟩;obtain ⟨ao,cp,rfl,hg⟩:=ho.grid;have hq:=q0B w2 (.cells #[.int .i64 M.nx,.int .i64 M.ck,.int .u64 M.sd,.slice ao M.L.length cp] 148);have hbk:=Blk.new w2 148 #[.int .i64 M.nx,.int .i64 M.ck,.int .u64 M.sd,.slice ao M.L.length cp];have HI2:=η44 ((HI.out.grow hx).more (K':=fun i=>K i∨i=w2.heap.size) hq (fun i hi=>hi.imp id fun e=>⟨by omega,by rw[e];exact hbk.lt⟩));have HS2:=η44 (HS.out.trans (HI.out.kExt (hx.trans hq)));have HC:=η44 (((HI.out.grow hx).more (K':=fun i=>K i∨i=w2.heap.size) hq (fun i hi=>hi.imp id fun e=>⟨by omega,by rw[e];exact hbk.lt⟩)).clean (hg.ext hq) M.nx M.ck M.sd)
  have HB2:=η44 hbk;clear ho hx hg hq hbk HT;go_wp2_with fail;refine HC.out.mono ?_;rintro e w3 ⟨rfl,hi,hs⟩;have HS3:=η44 (HS2.out.trans (fun i hi=>hs i (.inl hi)));have hb3:=HB2.out.same (hs _ (.inr rfl));have c1:w3.cell? ⟨w2.heap.size,1,none⟩=some (.int .i64 M.ck):=hb3.cell 1;have HR:=η44 (z2B hi M.ck HM0.out HM1.out (by have h1:=z2o C M.ck;have h2:=HBl.out;have h3:=HLen.out;omega));clear hi hs hb3 HC;go_wp2_with fail;refine HR.out.mono ?_;rintro e w4 ⟨D,hi,hs,(⟨hr,rfl⟩|⟨hr,rfl⟩)⟩
  ·have HI4:=η44 (hi.beside (K':=K) fun i hi=> .inl hi)
   have HS4:=η44 (HS3.out.trans (fun i hi=>hs i (.inl hi)));have HRr:=η44 hr;clear hi hs hr;go_wp2_with fail;go_ret3;exact ⟨.inl ⟨gx,_,_,D,_,rfl,HI4.out,by rw[←HMs.out];exact HRr.out,.inl ⟨rfl,HMc.out.symm,hsd,hck,hpos,HM.out⟩⟩,HS4.out⟩
  ·have HX4:=η44 hi.base
   have HS4:=η44 (HS3.out.trans (fun i hi=>hs i (.inl hi)));have HRr:=η44 hr;clear hi hs hr;go_wp2_with fail;go_ret3;exact ⟨.inr ⟨rfl,HX4.out,.inl ⟨hsd,by rw[←HMk.out,←HMs.out];exact HRr.out⟩⟩,HS4.out⟩
 ·have HD:=η44 hd;have HW:=η44 hwhy
  have HGo:=η44 hd.gone;clear hd hwhy;rcases hn with rfl|rfl
  all_goals
   go_wp2_with fail;refine HGo.out.mono ?_;rintro e w5 ⟨he,hd,hs⟩;have HO:=η44 (hd.iopen sd hs0 hs1 rate);have HS5:=η44 (HS.out.trans hs);clear hd hs;rcases he with rfl|rfl
   all_goals
    go_wp2_with fail;refine HO.out.mono ?_;rintro e w6 ⟨gx,rfl,hi,hs⟩;have HI:=η44 hi;have HS:=η44 (HS5.out.trans hs);clear hi hs HO HGo;have HT:=η44 HI.out.tells;go_wp2_with fail;refine HT.out.mono ?_;rintro e w2 ⟨v,vs,rfl,ho,hx⟩;obtain ⟨ao,cp,rfl,hg⟩:=ho.grid;have hq:=q0B w2 (.cells #[.int .i64 0,.int .i64 0,.int .u64 sd,.slice ao 0 cp] 148);have hbk:=Blk.new w2 148 #[.int .i64 0,.int .i64 0,.int .u64 sd,.slice ao 0 cp];have HI2:=η44 ((HI.out.grow hx).more (K':=fun i=>K i∨i=w2.heap.size) hq (fun i hi=>hi.imp id fun e=>⟨by omega,by rw[e];exact hbk.lt⟩));have HS2:=η44 (HS.out.trans (HI.out.kExt (hx.trans hq)));have HC:=η44 (((HI.out.grow hx).more (K':=fun i=>K i∨i=w2.heap.size) hq (fun i hi=>hi.imp id fun e=>⟨by omega,by rw[e];exact hbk.lt⟩)).clean (ao:=ao) (cap:=cp) (hg.ext hq));have HB2:=η44 hbk;clear ho hx hg hq hbk HT;go_wp2_with fail;refine HC.out.mono ?_
    rintro e w3 ⟨rfl,hi,hs⟩;have HS3:=η44 (HS2.out.trans (fun i hi=>hs i (.inl hi)));have hb3:=HB2.out.same (hs _ (.inr rfl));have c1:w3.cell? ⟨w2.heap.size,1,none⟩=some (.int .i64 0):=hb3.cell 1;have HR:=η44 (z2B hi 0 (by decide) (by decide) (by have h1:=z2o C 0;have h2:=HBl.out;rw[List.length_nil];omega));clear hi hs hb3 HC;go_wp2_with fail;refine HR.out.mono ?_;rintro e w4 ⟨D,hi,hs,(⟨hr,rfl⟩|⟨hr,rfl⟩)⟩
    ·have HI4:=η44 (hi.beside (K':=K) fun i hi=> .inl hi)
     have HS4:=η44 (HS3.out.trans (fun i hi=>hs i (.inl hi)));have HRr:=η44 hr;clear hi hs hr;go_wp2_with fail;go_ret3;exact ⟨.inl ⟨gx,_,_,D,_,rfl,HI4.out,HRr.out,.inr ⟨rfl,rfl,rfl,HW.out⟩⟩,HS4.out⟩
    ·have HX4:=η44 hi.base
     have HS4:=η44 (HS3.out.trans (fun i hi=>hs i (.inl hi)));have HRr:=η44 hr;clear hi hs hr;go_wp2_with fail;go_ret3;exact ⟨.inr ⟨rfl,HX4.out,.inr HRr.out⟩,HS4.out⟩
end
end
section
open Go.RowKit
def DKQ (wb W:World) (g:Nat) (m:Man) (c s:Int) (u cnt:Nat) (B:List En) (C:Cks) (K:Nat→Prop):Prop:=
 ∃st σ φ F,st.m=m∧st.w=[]∧DkF wb W g F σ K∧(PInv st σ c s φ u cnt B∧z0n φ m∧q9N φ C)∧okC C
section
variable {wb w W W':World} {g gl gs gx rate:Nat} {m:Man} {ws:List En} {c s sd:Int} {u cnt:Nat} {B:List En} {C:Cks} {P:Pbs} {sure:Int} {K K':Nat→Prop}
theorem DKQ.lopen (h:DKQ wb w g m c s u cnt B C K):Calls Tryz.prog 65 #[.pointer (some ⟨g,0,none⟩)] w fun e w'=> ∃gl,e= .returned (.tuple #[.pointer (some ⟨gl,0,none⟩),.int .i64 0])∧DKR wb w' g gl m c s u cnt B C (q4r C) K∧Stay K w w':=by
 obtain ⟨st,σ,φ,F,h1,h2,h3,⟨h4,hmap,hck⟩,h5⟩:=h;obtain ⟨E,e1,e2,e3,e4⟩:=q6Z h4 hck h5;refine (y0n (E:=E) (C:=C) (c:=c-(q2G E:Int)) (s:=s) (K:=K) (w0:=wb) ⟨F,σ,h3,e1⟩).mono ?_;rintro e w' ⟨gl,rfl,_,⟨F',v,σ',l1,l2⟩,hst⟩;obtain ⟨φ',p1,p2,p3⟩:=h4.relog e2 l2 l1.d.okD (u':=u) (cnt':=cnt) (by omega) (by omega);have hm:φ' mapN=φ mapN:=p3 mapN fun k hk e=>(q3X hk).1 e.symm
 refine ⟨gl,rfl,⟨st,σ',φ',v,F',h1,h2,⟨l1.d,l1.bF,l1.ext,fun i hi=>?_⟩,⟨p1,by unfold z0n;rw[hm];exact hmap,p2⟩,⟨l1.l,l2.ok⟩,fun i hi=>⟨fun hk=>(l1.k i hk).2.2 hi,l1.bG i hi⟩⟩,hst⟩;rcases hi with hi|hi
 ·exact ⟨(l1.k i hi).1,(l1.k i hi).2.1⟩
 ·exact ⟨l1.l.lt hi,fun hf=>l1.ap i hf hi⟩
structure StoP (wb W:World) (g gs gl gx rate:Nat) (m:Man) (ws:List En) (sd c s:Int) (u cnt:Nat) (B:List En) (C:Cks) (sure:Int) (P:Pbs) (K:Nat→Prop):Prop where
 i:IXG wb W g gx gl rate m ws c s u cnt B C sure (fun i=>K i∨i=gs)
 b:Blk W gs 102 #[.pointer (some ⟨gl,0,none⟩),.pointer (some ⟨gx,0,none⟩),.int .u64 sd]
 sdE:m.sd=sd
 recE:q0y 0 C=z4J P
 stE:StI sd B P
 ckE:m.ck≤q4r C
 wsE: ∀x∈ws,m.ck≤x.2.2
 k:¬K gs∧wb.heap.size≤gs
theorem StoP.grow (h:StoP wb W g gs gl gx rate m ws sd c s u cnt B C sure P K) (k:Ext W W'):StoP wb W' g gs gl gx rate m ws sd c s u cnt B C sure P K:=
 ⟨h.i.grow k,h.b.ext k,h.sdE,h.recE,h.stE,h.ckE,h.wsE,h.k⟩
theorem StoP.base (h:StoP wb W g gs gl gx rate m ws sd c s u cnt B C sure P K):Ext wb W:=h.i.base
theorem StoP.kExt (h:StoP wb W g gs gl gx rate m ws sd c s u cnt B C sure P K) (k:Ext W W'):Stay K W W':=fun i hi=>h.i.kExt k i (.inl hi)
theorem StoP.klt (h:StoP wb W g gs gl gx rate m ws sd c s u cnt B C sure P K): ∀i,K i→i<W.heap.size:=fun i hi=>h.i.klt i (.inl hi)
theorem StoP.more (h:StoP wb W g gs gl gx rate m ws sd c s u cnt B C sure P K) (k:Ext W W') (hK: ∀i,K' i→K i∨(W.heap.size≤i∧i<W'.heap.size)):StoP wb W' g gs gl gx rate m ws sd c s u cnt B C sure P K':=
 ⟨h.i.more k fun i hi=>by
  rcases hi with hi|hi
  ·exact (hK i hi).imp .inl id
  ·exact .inl (.inr hi),h.b.ext k,h.sdE,h.recE,h.stE,h.ckE,h.wsE,fun hk=>by
  rcases hK gs hk with h1|h1
  ·exact h.k.1 h1
  ·have:=h.b.lt;omega,h.k.2⟩
theorem StoP.beside (h:StoP wb W g gs gl gx rate m ws sd c s u cnt B C sure P K) (k: ∀i,K' i→K i):StoP wb W g gs gl gx rate m ws sd c s u cnt B C sure P K':=
 ⟨h.i.beside fun i hi=>hi.imp (k i) id,h.b,h.sdE,h.recE,h.stE,h.ckE,h.wsE,fun hk=>h.k.1 (k gs hk),h.k.2⟩
theorem StoP.sideM (h:StoP wb W g gs gl gx rate m ws sd c s u cnt B C sure P K) (hs:W.heap.size≤W'.heap.size) (hx:Ext wb W') (k: ∀i,i<W.heap.size→¬K i→W'.heap[i]? =W.heap[i]?) (hK: ∀i,K' i→K i∨(W.heap.size≤i∧i<W'.heap.size)):
  StoP wb W' g gs gl gx rate m ws sd c s u cnt B C sure P K':=
 ⟨h.i.sideM hs hx (fun i hi hn=>k i hi fun e=>hn (.inl e)) fun i hi=>by
  rcases hi with hi|hi
  ·exact (hK i hi).imp .inl id
  ·exact .inl (.inr hi),h.b.same (k gs h.b.lt h.k.1),h.sdE,h.recE,h.stE,h.ckE,h.wsE,fun hk=>by
  rcases hK gs hk with h1|h1
  ·exact h.k.1 h1
  ·have:=h.b.lt;omega,h.k.2⟩
theorem StoP.mono (h:StoP wb W g gs gl gx rate m ws sd c s u cnt B C sure P K) {u' cnt':Nat} (hu:u≤u') (hc:cnt≤cnt'):StoP wb W g gs gl gx rate m ws sd c s u' cnt' B C sure P K:=
 ⟨h.i.mono hu hc,h.b,h.sdE,h.recE,h.stE,h.ckE,h.wsE,h.k⟩
theorem StoP.stay (h:StoP wb W g gs gl gx rate m ws sd c s u cnt B C sure P K) {sure':Int} {K2:Nat→Prop} (hi:IXG wb W' g gx gl rate m ws c s u cnt B C sure' (fun i=>K2 i∨i=gs)) (hs:Stay (fun i=>K i∨i=gs) W W') (hk: ∀i,K2 i→K i∨W.heap.size≤i):StoP wb W' g gs gl gx rate m ws sd c s u cnt B C sure' P K2:=
 ⟨hi,h.b.same (hs gs (.inr rfl)),h.sdE,h.recE,h.stE,h.ckE,h.wsE,fun hk2=>by
  rcases hk gs hk2 with h1|h1
  ·exact h.k.1 h1
  ·have:=h.b.lt;omega,h.k.2⟩
theorem StoP.cells (h:StoP wb W g gs gl gx rate m ws sd c s u cnt B C sure P K):W.cell? ⟨gs,0,none⟩=some (.pointer (some ⟨gl,0,none⟩))∧W.cell? ⟨gs,1,none⟩=some (.pointer (some ⟨gx,0,none⟩))∧W.cell? ⟨gs,2,none⟩=some (.int .u64 sd):=⟨h.b.cell 0,h.b.cell 1,h.b.cell 2⟩
theorem StoP.okB (h:StoP wb W g gs gl gx rate m ws sd c s u cnt B C sure P K):okM B:=h.i.okB.1
theorem StoP.len (h:StoP wb W g gs gl gx rate m ws sd c s u cnt B C sure P K):B.length≤(tos (q1k P)).length:=h.stE.len h.okB.sort
theorem q7K (P:Pbs):(z4J P).length=P.length:=List.length_map _
theorem StoP.posLt (h:StoP wb W g gs gl gx rate m ws sd c s u cnt B C sure P K) {y:Nat×Bt} (hy:y∈P):(y.1,btB y.2)∈q0y 0 C:=by rw[h.recE];exact List.mem_map.2 ⟨y,hy,rfl⟩
end
end
section
open Go.RowKit
section
variable {wb w W W':World} {g gl gs gx rate:Nat} {m:Man} {ws:List En} {c s sd:Int} {u cnt:Nat} {B:List En} {C:Cks} {P:Pbs} {sure:Int} {K K':Nat→Prop}
theorem StoP.poke (h:StoP wb W g gs gl gx rate m ws sd c s u cnt B C sure P K) {q:Nat} (hq:K q) (hwb:wb.heap.size≤q) (j:Nat) (v:Value):StoP wb (W.setCell ⟨q,j,none⟩ v) g gs gl gx rate m ws sd c s u cnt B C sure P K:=
 h.sideM (by rw[World.size_setCell];exact Nat.le_refl _) (Below.setCell h.base hwb _) (fun i hi hn=>q0L _ _ fun e=>hn (e▸hq)) fun i hi=> .inl hi
theorem Stay.poke {K:Nat→Prop} {w W:World} (h:Stay K w W) {q:Nat} (hq:¬K q) (j:Nat) (v:Value):Stay K w (W.setCell ⟨q,j,none⟩ v):=fun i hi=>(q0L _ _ fun e=>hq (by rw[←e];exact hi)).trans (h i hi)
def z2I (r:Option To):Value:=match r with
 |some t=> .tuple #[toV t,.bool true,.int .i64 0]
 |none=> .tuple #[toV to0,.bool false,.int .i64 0]
theorem z9Z {e:Ev} (h:z8R e):(evB e).length≤228:=by
 obtain ⟨_,h3,h4⟩:=q2t h.1;unfold evB;rw[q2V (by omega),q2V (by omega)];simp[q0I];omega
theorem z2v : ∀{L:List Ev},(∀e∈L,z8R e)→((L.map evB).flatten).length≤228*L.length
 |[],_=>Nat.le_refl _
 | e::L,h=>by
  have h1:=z9Z (h e (.head _));have h2:=z2v (L:=L) fun x hx=>h x (.tail _ hx)
  rw[List.map_cons,List.flatten_cons,List.length_append,List.length_cons];omega
theorem z5s {b:Bt} (h:z4L b):(btB b).length≤2000:=by
 obtain ⟨p1,p2,p3,p4,p5,p6,p7⟩:=q1B h.1;have h1:=z2v (L:=b.ev) fun e he=>⟨q6M p7 e he,h.2 e he⟩
 unfold btB;rw[q2V (by omega),List.length_append,List.length_append,List.length_append,List.length_append,q0I,q0I,q0I];omega
theorem StoP.ent (h:StoP wb W g gs gl gx rate m ws sd c s u cnt B C sure P K) {x:En} (hx:x∈B) (str:List UInt8):
  ∃ (b:Bt) (k pos:Nat),z4L b∧q5I C (pos:Int)=(btB b,0)∧pos≤819200∧k<b.ev.length∧x=(q2P sd b.st,(b.fi:Int)+(k:Int),(pos:Int))∧
   q2D P str x=if b.st=str then some ⟨str,((b.fi+k:Nat):Int),b.ev.getD k ev0⟩ else none:=by
 obtain ⟨y,hy,k,hk,rfl⟩:=mem_entsP.1 ((h.stE.ents x).1 hx);have hp:=h.posLt hy;exact ⟨y.2,k,y.1,h.stE.ok.each (List.mem_map.2 ⟨y,hy,rfl⟩),z5t h.i.cOk hp,z7E h.i.cOk hp,hk,rfl,q5c h.stE.pos hy hk str⟩
theorem y1s {W:World} {q:Nat} {t:TypeId} {a b c d e:Value} (h:Blk W q t #[a,b,c,d,e]) (a' b' c' d':Value):
  (W.cell? ⟨q,0,none⟩=some a∧W.cell? ⟨q,1,none⟩=some b∧W.cell? ⟨q,2,none⟩=some c∧W.cell? ⟨q,3,none⟩=some d∧W.cell? ⟨q,4,none⟩=some e)∧
  (W.frozen? ⟨q,0,none⟩=false∧W.frozen? ⟨q,1,none⟩=false∧W.frozen? ⟨q,2,none⟩=false∧W.frozen? ⟨q,3,none⟩=false∧W.frozen? ⟨q,4,none⟩=false)∧
  (((W.setCell ⟨q,0,none⟩ a').setCell ⟨q,1,none⟩ b').frozen? ⟨q,2,none⟩=false∧((W.setCell ⟨q,0,none⟩ a').setCell ⟨q,1,none⟩ b').cell? ⟨q,2,none⟩=some c)∧
  ((((W.setCell ⟨q,0,none⟩ a').setCell ⟨q,1,none⟩ b').setCell ⟨q,2,none⟩ c').frozen? ⟨q,3,none⟩=false∧(((W.setCell ⟨q,0,none⟩ a').setCell ⟨q,1,none⟩ b').setCell ⟨q,2,none⟩ c').cell? ⟨q,3,none⟩=some d)∧
  (((((W.setCell ⟨q,0,none⟩ a').setCell ⟨q,1,none⟩ b').setCell ⟨q,2,none⟩ c').setCell ⟨q,3,none⟩ d').frozen? ⟨q,4,none⟩=false∧((((W.setCell ⟨q,0,none⟩ a').setCell ⟨q,1,none⟩ b').setCell ⟨q,2,none⟩ c').setCell ⟨q,3,none⟩ d').cell? ⟨q,4,none⟩=some e):=by
 have h2:=(h.set 0 a').set 1 b';have h3:=h2.set 2 c';have h4:=h3.set 3 d';exact ⟨⟨h.cell 0,h.cell 1,h.cell 2,h.cell 3,h.cell 4⟩,⟨h.free 0,h.free 1,h.free 2,h.free 3,h.free 4⟩,⟨h2.free 2,h2.cell 2⟩,⟨h3.free 3,h3.cell 3⟩,⟨h4.free 4,h4.cell 4⟩⟩
theorem z9C (h:StoP wb w g gs gl gx rate m ws sd c s u cnt B C sure P K) {x:En} (hx:x∈B) (str:List UInt8) (hs:str.length≤4611686018427387903):
  Calls Tryz.prog 106 #[.pointer (some ⟨gs,0,none⟩),enV x,.string ⟨str.toArray⟩] w fun e w'=>e= .returned (z2I (q2D P str x))∧StoP wb w' g gs gl gx rate m ws sd c s u cnt B C sure P K∧Stay K w w':=by
 obtain ⟨b,k,pos,hb,hrd,hpos,hk,rfl,hf⟩:=h.ent hx str;have hgb:=z4Z b hb;have hln:=z5s hb;obtain ⟨q1,q2,q3,q4,q5,q6,q7⟩:=q1B hb.1;rw[hf];show Calls _ _ #[_,.agg #[.int .u64 (q2P sd b.st),.int .i64 ((b.fi:Int)+(k:Int)),.int .i64 (pos:Int)],_] _ _;generalize q2P sd b.st=xh;obtain ⟨p,hp⟩: ∃p,btB b=p:=⟨_,rfl⟩
 rw[hp] at hrd hgb hln;have HG:=η44 (fun W=>z8S p W (by omega));rw[hgb] at HG;have hx1:=q0B w (.cells #[.int .u64 xh,.int .i64 ((b.fi:Int)+(k:Int)),.int .i64 (pos:Int)] 106);have hx2:=q0B (w.alloc (.cells #[.int .u64 xh,.int .i64 ((b.fi:Int)+(k:Int)),.int .i64 (pos:Int)] 106)) (.cells #[.string ⟨#[]⟩,.int .i64 0,.string ⟨#[]⟩,.string ⟨#[]⟩,.float .f64 0] 87);have hB0:=(Blk.new w 106 #[.int .u64 xh,.int .i64 ((b.fi:Int)+(k:Int)),.int .i64 (pos:Int)]).ext hx2;have hB1:=Blk.new (w.alloc (.cells #[.int .u64 xh,.int .i64 ((b.fi:Int)+(k:Int)),.int .i64 (pos:Int)] 106)) 87 #[.string ⟨#[]⟩,.int .i64 0,.string ⟨#[]⟩,.string ⟨#[]⟩,.float .f64 0];rw[World.size_alloc] at hB1;have hbs:=h.base.size;have H0:=h.more (K':=fun i=>K i∨i=w.heap.size∨i=w.heap.size+1) (hx1.trans hx2) fun i hi=>hi.imp id fun e=>by
  rw[World.size_alloc,World.size_alloc];omega
 have hS0:=h.kExt (hx1.trans hx2);have hnq:¬K (w.heap.size+1):=fun e=>by have:=h.klt _ e;omega
 have HR:=η44 (fun W k=>(H0.grow (W':=W) k).i.read (pos:Int) (by omega) (by omega) hrd);have k0:=hB0.cell 0;have k1:=hB0.cell 1;have k2:=hB0.cell 2;obtain ⟨s0,s1,s2⟩:=H0.cells;have HH:=η44 H0;have HS0:=η44 hS0;have HB0:=η44 hB0;have HB1:=η44 hB1;have HNq:=η44 hnq;have HLq:Hid (wb.heap.size≤w.heap.size+1):=η44 (by omega);clear h hx hf hb hgb hx1 hx2 H0 hS0 hB0 hB1 hnq hbs hrd;go_enter Tryz.func106,Tryz.ntmps106;go_wp2_with fail;have d0:=q0A (Ext.refl _).drew s0;have d2:=q0A (Ext.refl _).drew k2
 go_region_held3 (fun W=>W.cell? ⟨gs,0,none⟩=some (.pointer (some ⟨gl,0,none⟩))∧W.cell? ⟨w.heap.size,2,none⟩=some (.int .i64 (pos:Int)))
  (first|exact HC3.out|exact ⟨d0,d2⟩)
  (first|(go_at_call 167;refine (HR.out _ (Ext.refl _).drew).mono ?_;rintro e w3 ⟨rfl,hi,hst⟩;have HH3:=η44 ((HH.out.grow (Ext.refl _).drew).stay hi hst fun i hi=> .inl hi);have HS3:=η44 (HS0.out.trans fun i hi=>hst i (.inl (.inl hi)));have HB03:=η44 ((HB0.out.ext (Ext.refl _).drew).same (hst _ (.inl (.inr (.inl rfl)))));have HB13:=η44 ((HB1.out.ext (Ext.refl _).drew).same (hst _ (.inl (.inr (.inr rfl)))));have HC3:=η44 (And.intro HH3.out.cells.1 (HB03.out.cell 2));clear hi hst))
 clear HC3 d0 d2;clear HR HH HS0 HB0 HB1 k0 k1 k2 s0 s1 s2;generalize w.heap.size=q at*;go_wp2_with fail;refine (HG.out _).mono ?_;rintro e w4 ⟨⟨y,rfl,hy⟩,hx⟩;obtain ⟨x,rfl,hown⟩:=hy;obtain ⟨ao,cp,rfl,hev⟩:=Evs.of_own hown;have hb1:=hev.fits;have hb2:=hev.bound;obtain ⟨st,fi,ev⟩:=b;simp only at hk q1 q2 q3 q4 q5 q6 hev hb1 hown⊢;obtain ⟨n,hn⟩: ∃n,ev.length=n:=⟨_,rfl⟩
 rw[hn] at hk q4 q6 hev hb1 hown⊢;have hx5:=q0B w4 (.cells #[.string ⟨st.toArray⟩,.int .i64 (fi:Int),.slice ao n cp] 96);have hbt:=Blk.new w4 96 #[.string ⟨st.toArray⟩,.int .i64 (fi:Int),.slice ao n cp];have HH5:=η44 (HH3.out.grow (hx.trans hx5));have HS5:=η44 (HS3.out.trans fun i hi=>HH3.out.kExt (hx.trans hx5) i (.inl hi));have HB05:=η44 (HB03.out.ext (hx.trans hx5));have HB15:=η44 (HB13.out.ext (hx.trans hx5));have hev5:=hev.ext hx5;have k1:=HB05.out.cell 1;have b0:=hbt.cell 0;have b1:=hbt.cell 1;have b2:=hbt.cell 2;have qi:IntKind.i64.wrap ((fi:Int)+(k:Int)-(fi:Int))=(k:Int):=by rw[IntKind.wrap_i64];omega
 have hd1:decide ((k:Int)<0)=false:=decide_eq_false (by omega);have hd2:decide ((n:Int)≤(k:Int))=false:=decide_eq_false (by omega);have hkn:(k:Int)<(n:Int):=by omega
 have hk0:0≤(k:Int):=by omega
 have hsf:=q3o;obtain ⟨bb,off,rfl,c0,c1,c2⟩:=hev5.at hk;obtain ⟨ee,hee⟩: ∃ee,ev.getD k ev0=ee:=⟨_,rfl⟩
 rw[hee] at c0 c1 c2;obtain ⟨ty,da,we⟩:=ee;have HEe:Hid (∀h:k<ev.length,ev[k]=⟨ty,da,we⟩):=η44 fun h=>by rw[←hee,List.getD_eq_getElem?_getD,List.getElem?_eq_getElem h];rfl
 simp only at c0 c1 c2⊢;have hfin: ∀(W:World),W=w4.alloc (.cells #[.string ⟨st.toArray⟩,.int .i64 (fi:Int),.slice (some ⟨bb,off,none⟩) n cp] 96)→ ∀a0 a1 a2 a3 a4:Value,
   StoP wb (((((W.setCell ⟨q+1,0,none⟩ a0).setCell ⟨q+1,1,none⟩ a1).setCell ⟨q+1,2,none⟩ a2).setCell ⟨q+1,3,none⟩ a3).setCell ⟨q+1,4,none⟩ a4) g gs gl gx rate m ws sd c s u cnt B C sure P K∧
    Stay K w (((((W.setCell ⟨q+1,0,none⟩ a0).setCell ⟨q+1,1,none⟩ a1).setCell ⟨q+1,2,none⟩ a2).setCell ⟨q+1,3,none⟩ a3).setCell ⟨q+1,4,none⟩ a4):=fun W hW a0 a1 a2 a3 a4=>by
  subst hW;have e: ∀i:Nat,(fun i=>K i∨i=q∨i=q+1) (q+1):=fun _=> .inr (.inr rfl)
  exact ⟨(((((HH5.out.poke (e 0) HLq.out 0 a0).poke (e 0) HLq.out 1 a1).poke (e 0) HLq.out 2 a2).poke (e 0) HLq.out 3 a3).poke (e 0) HLq.out 4 a4).beside fun i hi=> .inl hi,
   ((((HS5.out.poke HNq.out 0 a0).poke HNq.out 1 a1).poke HNq.out 2 a2).poke HNq.out 3 a3).poke HNq.out 4 a4⟩
 have HF:=η44 hfin;clear hee hx hx5 hown hev hev5 hbt hfin HG HS3 HH3 HB03 HB13 q7;by_cases hss:st=str
 ·subst hss
  obtain ⟨⟨z0,z1,z2,z3,z4⟩,⟨f0,f1,f2,f3,f4⟩,⟨g2,d2⟩,⟨g3,d3⟩,⟨g4,d4⟩⟩:=y1s HB15.out (.string ⟨st.toArray⟩) (.int .i64 ((fi:Int)+(k:Int))) (.string ⟨ty.toArray⟩) (.string ⟨da.toArray⟩);go_wp2_with fail;refine q9H 9 (by kernel_rfl) (by kernel_rfl) ?_;simp only[List.take_succ_cons,List.take_zero,List.drop_succ_cons,List.drop_zero]
  repeat still_step
  refine wpStill_nil ?_;go_wp2_with fail
  ((try simp only[Exit.inBlock,Exit.then]);refine bodyPost_ret (v:= .tuple #[.agg #[.string ⟨st.toArray⟩,.int .i64 ((fi:Int)+(k:Int)),.string ⟨ty.toArray⟩,.string ⟨da.toArray⟩,.float .f64 we],.bool true,.int .i64 0]) (by rw[q0Q rfl];go_simp) rfl ?_)
  obtain ⟨r1,r2⟩:=HF.out _ rfl (.string ⟨st.toArray⟩) (.int .i64 ((fi:Int)+(k:Int))) (.string ⟨ty.toArray⟩) (.string ⟨da.toArray⟩) (.float .f64 we);exact ⟨by rw[HEe.out];rfl,r1.grow (Ext.refl _).drew,r2⟩
 ·obtain ⟨⟨z0,z1,z2,z3,z4⟩,⟨f0,f1,f2,f3,f4⟩,⟨g2,d2⟩,⟨g3,d3⟩,⟨g4,d4⟩⟩:=y1s HB15.out (.string ⟨#[]⟩) (.int .i64 0) (.string ⟨#[]⟩) (.string ⟨#[]⟩)
  go_wp2_with fail
  ((try simp only[Exit.inBlock,Exit.then]);refine bodyPost_ret (v:= .tuple #[.agg #[.string ⟨#[]⟩,.int .i64 0,.string ⟨#[]⟩,.string ⟨#[]⟩,.float .f64 0],.bool false,.int .i64 0]) (by rw[q0Q rfl];go_simp) rfl ?_)
  exact ⟨rfl,HF.out _ rfl _ _ _ _ _⟩
end
end
section
open Go.RowKit
section
variable {wb w W W1 W2:World} {g gl gs gx rate:Nat} {m:Man} {ws:List En} {c s sd:Int} {u cnt:Nat} {B:List En} {C:Cks} {P:Pbs} {sure:Int} {K K':Nat→Prop}
theorem StoP.row1 {n n1 sz base:Nat} {vq v2:Value} {ys ys1:List Value} {l2:Obj} {ti:TypeId} (h:StoP wb W g gs gl gx rate m ws sd c s u cnt B C sure P (fun i=>K i∨vq.ownBlock=some i)) (hb:wb.heap.size≤base) (hq:W.ownsRow base ti sz vq n ys)
  (h2:W2.ownsRow base ti sz v2 n1 ys1) (g2:(W.alloc l2).grownBy W2 vq.ownBlock) (a2:v2.ownBlock=vq.ownBlock∨v2.ownBlock=some (W.alloc l2).heap.size) (hd: ∀i,K i→vq.ownBlock≠some i):
  StoP wb W2 g gs gl gx rate m ws sd c s u cnt B C sure P (fun i=>K i∨v2.ownBlock=some i)∧Stay K W W2∧ ∀i,K i→v2.ownBlock≠some i:=by
 have s2:=g2.size;rw[World.size_alloc] at s2;have hqb: ∀i,vq.ownBlock=some i→base≤i∧i<W.heap.size:=q0c hq;have e2: ∀i,i<W.heap.size→vq.ownBlock≠some i→W2.heap[i]? =W.heap[i]? :=fun i hi hn=>(g2.block i (by rw[World.size_alloc];omega) fun e=>hn e.symm).trans ((q0B W l2).block i hi)
 have hx0:=h.base;have hx2:Ext wb W2:=Below.grown (hx0.alloc l2) g2 (by rw[World.size_alloc];have:=hx0.size;omega) fun k hk=>by have:=(hqb k hk).1;omega
 refine ⟨h.sideM (by omega) hx2 (fun i hi hn=>e2 i hi fun e=>hn (.inr e)) fun i hi=>?_,fun i hi=>e2 i (h.klt i (.inl hi)) (hd i hi),fun i hi e=>?_⟩
 ·rcases hi with hi|hi
  ·exact .inl (.inl hi)
  ·rcases a2 with k|k
   ·exact .inl (.inr (k.symm.trans hi))
   ·have hlt:=(q0c h2 i hi).2
    rw[k,World.size_alloc] at hi
    cases hi
    right;omega
 ·rcases a2 with k|k
  ·exact hd i hi (k.symm.trans e)
  ·rw[k,World.size_alloc] at e
   cases e;have:=h.klt _ (.inl hi);omega
theorem q6d (h :StoP wb w g gs gl gx rate m ws sd c s u cnt B C sure P K) (str:List UInt8) (hs:str.length≤4611686018427387903) (fr tt:Int) (hl:B.length≤10000) {R:List To}
  (hR:(q8K (q1k P) str).filter (fun t=>decide (max fr 0≤t.v∧t.v≤min tt 1073741824))=R):
  Calls Tryz.prog 63 #[.pointer (some ⟨gs,0,none⟩),.string ⟨str.toArray⟩,.int .i64 fr,.int .i64 tt] w fun e w'=>
   ∃v,e= .returned (.tuple #[v,.int .i64 0])∧StoP wb w' g gs gl gx rate m ws sd c s u cnt B C sure P (fun i=>K i∨v.ownBlock=some i)∧Stay K w w'∧w'.ownsRow wb.heap.size 87 5 v R.length (q4i R)∧ ∀i,K i→v.ownBlock≠some i:=by
 have hbt:=h.stE.between h.okB.sort str (max fr 0) (min tt 1073741824);rw[hR] at hbt;have hlen:(q0m B (q2P sd str) (max fr 0) (min tt 1073741824)).length≤10000:=Nat.le_trans (List.length_filter_le _ _) hl;have hmem: ∀x∈q0m B (q2P sd str) (max fr 0) (min tt 1073741824),x∈B:=fun x hx=>(mem_range.1 hx).1
 have HHs:=η44 (fun W=>z2w sd str W hs);have HRg:=η44 (fun W (k:Ext w W)=>(h.grow (W':=W) k).i.range (q2P sd str) fr tt hl);obtain ⟨s0,s1,s2⟩:=h.cells;have HH:=η44 h;have hwb:=h.base.size;have hsort: ∀x∈q0m B (q2P sd str) (max fr 0) (min tt 1073741824),x∈B:=hmem;generalize q0m B (q2P sd str) (max fr 0) (min tt 1073741824)=L at*;generalize q2P sd str=hh at*;have d1:=q0A (Ext.refl _).drew s1;have d2:=q0A (Ext.refl _).drew s2;clear h hR s0 s1 s2;go_enter Tryz.func63,Tryz.ntmps63;go_wp2_with fail
 go_region_held3 (fun W=>W.cell? ⟨gs,1,none⟩=some (.pointer (some ⟨gx,0,none⟩))∧W.cell? ⟨gs,2,none⟩=some (.int .u64 sd))
  (first|exact HC3.out|exact ⟨d1,d2⟩)
  (first
   |(go_at_call 38;refine (HHs.out _).mono ?_;rintro e wa ⟨rfl,rfl⟩)
   |(go_at_call 105;refine (HRg.out _ (Ext.refl _).drew).mono ?_;rintro e w3 ⟨v,rfl,hi,hst,hrow⟩;have HRow:=η44 hrow;have HI3:=η44 hi;have HS3:=η44 hst;have HC3:=η44 (And.intro (((HH.out.grow (Ext.refl _).drew).b.same (hst _ (.inr rfl))).cell 1) (((HH.out.grow (Ext.refl _).drew).b.same (hst _ (.inr rfl))).cell 2));clear hi hst hrow))
 all_goals
  clear HC3 d1 d2 HHs HRg;have hrow:=HRow.out;obtain ⟨ao,cp,rfl⟩:=q0J hrow
  have HH3:Hid (StoP wb w3 g gs gl gx rate m ws sd c s u cnt B C sure P (fun i=>(K i∨(Value.slice ao L.length cp).ownBlock=some i)∨(Value.slice none 0 0).ownBlock=some i)):=η44 ((HH.out.grow (Ext.refl _).drew).stay (HI3.out.beside fun i hi=>by
   rcases hi with ((hi|hi)|hi)|hi
   ·exact .inl (.inl hi)
   ·exact .inr hi
   ·cases hi
   ·exact .inl (.inr hi)) HS3.out fun i hi=>by
   rcases hi with (hi|hi)|hi
   ·exact .inl hi
   ·exact .inr (q0c hrow i hi).1
   ·cases hi)
  have HSt3:Hid (Stay K w w3):=η44 fun i hi=>HS3.out i (.inl hi)
  have HKl:Hid (∀i,K i→(Value.slice ao L.length cp).ownBlock≠some i):=η44 fun i hi e=>by
   have h1:=HH.out.klt i hi;have h2:w.heap.size≤i:=(q0c hrow i e).1;omega
  have hn9:=hrow;have HLn:Hid (L.length≤cp∧cp≤9223372036854775807):=η44 (by obtain ⟨_,_,h1,h2⟩:=Ens.of_own (Own.of_row hrow);cases h1;exact ⟨h2.fits,h2.bound⟩);have b1:=HLn.out.1;have b2:=HLn.out.2;clear hrow hn9 HI3 HS3;go_wp2_with fail
  go_loopw [12,39] (fun o i W=> ∃(k:Nat) (v:Value),k≤L.length∧o=v∧i= .int .i64 (k:Int)∧W.ownsRow wb.heap.size 87 5 v ((L.take k).filterMap (q2D P str)).length (q4i ((L.take k).filterMap (q2D P str)))∧
   StoP wb W g gs gl gx rate m ws sd c s u cnt B C sure P (fun i=>(K i∨(Value.slice ao L.length cp).ownBlock=some i)∨v.ownBlock=some i)∧Stay K w W∧W.ownsRow w.heap.size 106 3 (.slice ao L.length cp) L.length (ecs L)∧ ∀i,(K i∨(Value.slice ao L.length cp).ownBlock=some i)→v.ownBlock≠some i) (fun _ i _=>L.length-(intOf i).toNat)
  case atStart=>exact ⟨0,_,Nat.zero_le _,rfl,rfl,World.ownsRow_nil _ _ _ _,HH3.out,HSt3.out,HRow.out,fun i _ e=>by cases e⟩
  case round =>
   obtain ⟨k,v,hk,rfl,rfl,hro,hst,hsy,hrl,hdj⟩:=hrel;have HRo:=η44 hro;have HSt:=η44 hst;have HSy:=η44 hsy;have HRl:=η44 hrl;have HDj:=η44 hdj;obtain ⟨oa,oc,rfl⟩:=q0J hro;by_cases hlt:k<L.length
   ·have hd:decide ((k:Int)<(L.length:Int))=true:=decide_eq_true (by omega)
    have q8:IntKind.i64.wrap ((k:Int)+1)=(k:Int)+1:=by rw[IntKind.wrap_i64];omega
    have hki:(k:Int)<(L.length:Int):=by omega
    obtain ⟨_,_,he1,hens⟩:=Ens.of_own (Own.of_row hrl)
    cases he1;obtain ⟨bb,off,rfl,c0,c1,c2⟩:=hens.at hlt;have htk:L.take (k+1)=L.take k++[L.getD k en0]:=by rw[List.take_succ_eq_append_getElem hlt,List.getD_eq_getElem?_getD,List.getElem?_eq_getElem hlt];rfl
    have hxB:=hmem (L.getD k en0) (by rw[List.getD_eq_getElem?_getD,List.getElem?_eq_getElem hlt];exact List.getElem_mem hlt);obtain ⟨x,hx⟩: ∃x,L.getD k en0=x:=⟨_,rfl⟩
    rw[hx] at c0 c1 c2 htk hxB
    have HTk:Hid ((L.take (k+1)).filterMap (q2D P str)=(L.take k).filterMap (q2D P str)++(q2D P str x).toList):=η44 (by
     rw[htk,List.filterMap_append];congr 1)
    have HOl:Hid (((L.take k).filterMap (q2D P str)).length≤10000):=η44 (Nat.le_trans (List.length_filterMap_le _ _) (by rw[List.length_take];omega));obtain ⟨x1,x2,x3⟩:=x;simp only at c0 c1 c2;have hx1:=q0B wr (.cells #[.int .u64 x1,.int .i64 x2,.int .i64 x3] 106);have hbk:=Blk.new wr 106 #[.int .u64 x1,.int .i64 x2,.int .i64 x3];have k0:=hbk.cell 0;have k1:=hbk.cell 1;have k2:=hbk.cell 2;have HF:Hid (Calls Tryz.prog 106 #[.pointer (some ⟨gs,0,none⟩),.agg #[.int .u64 x1,.int .i64 x2,.int .i64 x3],.string ⟨str.toArray⟩] (wr.alloc (.cells #[.int .u64 x1,.int .i64 x2,.int .i64 x3] 106)) fun e w'=>e= .returned (z2I (q2D P str (x1,x2,x3)))∧StoP wb w' g gs gl gx rate m ws sd c s u cnt B C sure P (fun i=>(K i∨(Value.slice (some ⟨bb,off,none⟩) L.length cp).ownBlock=some i)∨(Value.slice oa ((L.take k).filterMap (q2D P str)).length oc).ownBlock=some i)∧Stay (fun i=>(K i∨(Value.slice (some ⟨bb,off,none⟩) L.length cp).ownBlock=some i)∨(Value.slice oa ((L.take k).filterMap (q2D P str)).length oc).ownBlock=some i) (wr.alloc (.cells #[.int .u64 x1,.int .i64 x2,.int .i64 x3] 106)) w'):=
     η44 (z9C (hst.grow hx1) hxB str hs)
    clear hro hst hsy hrl hdj hens hbk htk hxB hx;go_wp2_with fail;refine HF.out.mono ?_;rintro e w5 ⟨rfl,hh5,hs5⟩;have hs5':Stay (fun i=>(K i∨(Value.slice (some ⟨bb,off,none⟩) L.length cp).ownBlock=some i)∨(Value.slice oa ((L.take k).filterMap (q2D P str)).length oc).ownBlock=some i) wr w5:=(HSt.out.kExt hx1).trans hs5;have HRo5:=η44 (q1O HRo.out fun i hi=>hs5' i (.inr hi));have HRl5:=η44 (q1O HRl.out fun i hi=>hs5' i (.inl (.inr hi)));have HSy5:=η44 (HSy.out.trans fun i hi=>hs5' i (.inl (.inl hi)));have HSt5:=η44 hh5;clear hh5 hs5 hs5' HF hx1 HSt HRo HRl HSy k0 k1 k2 c0 c1 c2;obtain ⟨OL,hOL⟩: ∃OL,(L.take k).filterMap (q2D P str)=OL:=⟨_,rfl⟩
    rw[hOL] at HRo5 HSt5 HTk HOl HDj⊢;obtain ⟨no,hno⟩: ∃no,OL.length=no:=⟨_,rfl⟩
    rw[hno] at HRo5 HSt5 HOl HDj⊢;have ho9:=HOl.out;clear hOL;obtain ⟨r,hr⟩: ∃r,q2D P str (x1,x2,x3)=r:=⟨_,rfl⟩
    rw[hr] at HTk⊢;clear hr
    cases r with
    | none=>
     have hx6:=q0B w5 (.cells #[.string ⟨#[]⟩,.int .i64 0,.string ⟨#[]⟩,.string ⟨#[]⟩,.float .f64 0] 87);have HX6:=η44 hx6;rw[show z2I none= .tuple #[.agg #[.string ⟨#[]⟩,.int .i64 0,.string ⟨#[]⟩,.string ⟨#[]⟩,.float .f64 0],.bool false,.int .i64 0] from rfl];clear hx6;have hsf:=q3o;go_wp2_with fail
     go_roundw
     case rel=>
      refine ⟨k+1,_,by omega,rfl,by go_num,?_,HSt5.out.grow HX6.out,HSy5.out.trans fun i hi=>HSt5.out.kExt HX6.out i (.inl (.inl hi)),q0N HRl5.out HX6.out,HDj.out⟩;rw[HTk.out,show (none:Option To).toList=[] from rfl,List.append_nil,hno];exact q0N HRo5.out HX6.out
     case measure=>simp[intOf];omega
    | some t=>
     obtain ⟨ts,tv,⟨ty,da,we⟩⟩:=t;have hx6:=q0B w5 (.cells #[.string ⟨ts.toArray⟩,.int .i64 tv,.string ⟨ty.toArray⟩,.string ⟨da.toArray⟩,.float .f64 we] 87);have hbk:=Blk.new w5 87 #[.string ⟨ts.toArray⟩,.int .i64 tv,.string ⟨ty.toArray⟩,.string ⟨da.toArray⟩,.float .f64 we];have t0:=hbk.cell 0;have t1:=hbk.cell 1;have t2:=hbk.cell 2;have t3:=hbk.cell 3;have t4:=hbk.cell 4;have HX6:=η44 hx6;rw[show z2I (some ⟨ts,tv,⟨ty,da,we⟩⟩)= .tuple #[.agg #[.string ⟨ts.toArray⟩,.int .i64 tv,.string ⟨ty.toArray⟩,.string ⟨da.toArray⟩,.float .f64 we],.bool true,.int .i64 0] from rfl];have HSt6:=η44 (HSt5.out.grow hx6);have HBs:Hid (wb.heap.size≤w5.heap.size):=η44 HSt5.out.base.size
     have HRd:Hid (Rd ((w5.alloc (.cells #[.string ⟨ts.toArray⟩,.int .i64 tv,.string ⟨ty.toArray⟩,.string ⟨da.toArray⟩,.float .f64 we] 87)).alloc (.cells #[.string ⟨ts.toArray⟩,.int .i64 tv,.string ⟨ty.toArray⟩,.string ⟨da.toArray⟩,.float .f64 we] 87)) (some ⟨w5.heap.size+1,0,none⟩) (toc ⟨ts,tv,⟨ty,da,we⟩⟩)):=η44 (by
      have h:=Rd.lit (w5.alloc (.cells #[.string ⟨ts.toArray⟩,.int .i64 tv,.string ⟨ty.toArray⟩,.string ⟨da.toArray⟩,.float .f64 we] 87)) #[.string ⟨ts.toArray⟩,.int .i64 tv,.string ⟨ty.toArray⟩,.string ⟨da.toArray⟩,.float .f64 we] 87;rw[World.size_alloc] at h
      exact h)
     have hsf:=q3o;clear hx6 hbk
     go_wp2_with (at_builtin;refine q0R rfl _ _ 35 rfl wb.heap.size 87 _ 5 64 Tryz.underlying35 Tryz.infoTo (by decide) (by decide) _ no (q4i OL) rfl (q0N (q0N HRo5.out HX6.out) (q0B _ _)) _ 1 1 (toc ⟨ts,tv,⟨ty,da,we⟩⟩) rfl rfl (fun h=>by cases h) HRd.out (by unfold toc;simp[Value.oneCell']) (by unfold maxLen;omega) (by omega) (by have:=HBs.out;simp;omega) ?_;intro v2 w8 hown hgrow hat;obtain ⟨a2,k2,rfl⟩:=q0J hown;have HO:=η44 hown;have HR1:=η44 (StoP.row1 HSt6.out (Nat.le_refl _) (q0N HRo5.out HX6.out) hown hgrow hat HDj.out);clear hown hgrow hat)
     go_roundw
     case rel=>
      obtain ⟨r1,r2,r3⟩:=HR1.out;refine ⟨k+1,_,by omega,rfl,by go_num,?_,r1,?_,?_,r3⟩
      ·rw[HTk.out,show (some (⟨ts,tv,⟨ty,da,we⟩⟩:To)).toList=[⟨ts,tv,⟨ty,da,we⟩⟩] from rfl,z4v,List.length_append,hno]
       exact HO.out
      ·exact (HSy5.out.trans fun i hi=>HSt5.out.kExt HX6.out i (.inl (.inl hi))).trans fun i hi=>r2 i (.inl hi)
      ·exact q1O (q0N HRl5.out HX6.out) fun i hi=>r2 i (.inr hi)
     case measure=>simp[intOf];omega
   ·obtain rfl:k=L.length:=by omega
    have hd:decide ((L.length:Int)<(L.length:Int))=false:=decide_eq_false (by omega);have e9:(L.take L.length).filterMap (q2D P str)=R:=by rw[List.take_length];exact hbt
    clear hro hst hsy hrl hdj;rw[e9] at HRo HSt HDj⊢;go_wp2_with fail;go_ret2;exact ⟨_,rfl,HSt.out.beside fun i hi=>hi.imp .inl id,HSy.out,HRo.out,fun i hi=>HDj.out i (.inl hi)⟩
end
end
section
open Go.RowKit
section
variable {wb w W W1 W2:World} {g gl gs gx rate:Nat} {m:Man} {ws:List En} {c s sd:Int} {u cnt:Nat} {B:List En} {C:Cks} {P:Pbs} {sure:Int} {K K':Nat→Prop}
theorem z0o (h:Blk W gs 102 #[.pointer (some ⟨gl,0,none⟩),.pointer (some ⟨gx,0,none⟩),.int .u64 sd]):Calls Tryz.prog 35 #[.pointer (some ⟨gs,0,none⟩)] W fun e w'=>e= .returned (.bool false)∧W=w':=by
 have c0:=h.cell 0;clear h;go_enter Tryz.func35,Tryz.ntmps35;go_wp2_with fail;go_ret;exact ⟨rfl,rfl⟩
def z1K (bs:List Bt) (str:List UInt8):Int×Int:=if q1G str=true then (((q0u bs str).length:Int)-1,0) else (-1,2)
theorem z4w (h:StoP wb w g gs gl gx rate m ws sd c s u cnt B C sure P K) (str:List UInt8) (hs:str.length≤4611686018427387903) (hl:B.length≤10000) (hev:(q0u (q1k P) str).length≤1073741824) {x y:Int} (hr:z1K (q1k P) str=(x,y)):
  Calls Tryz.prog 28 #[.pointer (some ⟨gs,0,none⟩),.string ⟨str.toArray⟩] w fun e w'=>e= .returned (.tuple #[.int .i64 x,.int .i64 y])∧StoP wb w' g gs gl gx rate m ws sd c s u cnt B C sure P K∧Stay K w w':=by
 have HN:=η44 (z0o h.b);have HNm:=η44 (q8s str w (by omega));have HHs:=η44 (fun W=>z2w sd str W hs);have HH:=η44 h;clear h;unfold z1K at hr
 cases hstr:q1G str with
 | false=>
  rw[hstr,if_neg (by decide)] at hr;injection hr with h1 h2;subst h1 h2;rw[hstr] at HNm;go_enter Tryz.func28,Tryz.ntmps28;go_wp2_with fail;refine HN.out.mono ?_;rintro e w1 ⟨rfl,rfl⟩;go_wp2_with fail;refine HNm.out.mono ?_;rintro e w1 ⟨rfl,hx⟩;have HX:=η44 hx;clear hx;go_wp2_with fail;go_ret2;exact ⟨rfl,HH.out.grow HX.out,HH.out.kExt HX.out⟩
 | true =>
  rw[hstr,if_pos rfl] at hr;rw[hstr] at HNm;obtain ⟨N,hN⟩: ∃N,(q0u (q1k P) str).length=N:=⟨_,rfl⟩
  rw[hN] at hr hev;injection hr with h1 h2;subst h2;have HX1:=η44 h1;clear h1;have HNn:=η44 hN;go_enter Tryz.func28,Tryz.ntmps28;go_wp2_with fail;refine HN.out.mono ?_;rintro e w1 ⟨rfl,rfl⟩;go_wp2_with fail;refine HNm.out.mono ?_;rintro e w1 ⟨rfl,hx⟩;have HH1:=η44 (HH.out.grow hx);have HS1:=η44 (HH.out.kExt hx);obtain ⟨s0,s1,s2⟩:=HH1.out.cells;clear hx HNm;go_wp2_with fail;refine (HHs.out _).mono ?_;rintro e w1' ⟨rfl,rfl⟩;clear s0 s1 s2;go_wp2_with fail
  go_loopw [7] (fun o W=> ∃v:Int,o= .int .i64 v∧(N:Int)-1≤v∧v≤1073741824∧ -1≤v∧StoP wb W g gs gl gx rate m ws sd c s u cnt B C sure P K∧Stay K w W) (fun o _=>(intOf o+2).toNat)
  case atStart=>exact ⟨1073741824,rfl,by omega,by omega,by omega,HH1.out,HS1.out⟩
  case round=>
   obtain ⟨v,rfl,v0,v1,v2,hh,hsy⟩:=hrel;obtain ⟨s0,s1,s2⟩:=hh.cells;have HH2:=η44 hh;have HS2:=η44 hsy;have HL:=η44 (hh.i.last (q2P sd str) v (by omega));have HLa:=η44 (fun r hr=>hh.stE.last hh.okB (s:=str) (u:=v) (r:=r) (by rw[HNn.out];exact v0) hr);rw[show min v 1073741824=v by omega] at HL;clear hh hsy;go_wp2_with fail;refine HL.out.mono ?_;rintro e w2 ⟨r,rfl,hlr,hi,hst⟩;obtain ⟨l1,l2,l3,l4,l5⟩:=HLa.out r hlr;rw[HNn.out] at l1 l4 l5;have hrv:r≤v:=by
    rcases hlr.2 with e|⟨y,hy,_,e1,e2⟩
    ·omega
    ·omega
   have HH3:=η44 (HH2.out.stay hi hst fun i hi=> .inl hi);have HS3:=η44 (HS2.out.trans fun i hi=>hst i (.inl hi));clear hi hst s0 s1 s2 HL HLa hlr;by_cases hr0:r<0
   ·have hd:decide (r<0)=true:=decide_eq_true hr0
    have hN0:(N:Int)=0:=by have:=l3 hr0;rw[←HNn.out,this];rfl
    obtain rfl:x= -1:=by have:=HX1.out;omega
    go_wp2_with fail
    (try rw[Exit.noGoto_ret])
    go_ret2;exact ⟨rfl,HH3.out,HS3.out⟩
   ·have hd:decide (r<0)=false:=decide_eq_false hr0
    have HB:=η44 (q6d HH3.out str hs r r hl rfl);rw[show max r 0=r by omega,show min r 1073741824=r by omega] at HB;have l4':=l4 (by omega);obtain ⟨R,hR⟩: ∃R,(q8K (q1k P) str).filter (fun t=>decide (r≤t.v∧t.v≤r))=R:=⟨_,rfl⟩
    rw[hR] at HB l4' l5;obtain ⟨s0,s1,s2⟩:=HH3.out.cells;clear l3 l4 hR;go_wp2_with fail;refine HB.out.mono ?_;rintro e w3 ⟨v3,rfl,hh,hst,hrow,hdj⟩;obtain ⟨ra,rc,rfl⟩:=q0J hrow;have HH4:=η44 (hh.beside (K':=K) fun i hi=> .inl hi);have HS4:=η44 (HS3.out.trans hst);clear hh hst hrow hdj HB s0 s1 s2;by_cases hRn:R=[]
    ·have h9:=l4' hRn
     have q9:IntKind.i64.wrap (r-1)=r-1:=by rw[IntKind.wrap_i64];omega
     subst hRn;go_wp2_with fail
     go_roundw
     case rel=>exact ⟨r-1,by go_num,by omega,by omega,by omega,HH4.out,HS4.out⟩
     case measure=>simp[intOf];omega
    ·have h9:=l5 hRn
     obtain rfl:r=x:=by have:=HX1.out;omega
     have hpos:0<R.length:=List.length_pos_iff.2 hRn;have hd2:decide (0<(R.length:Int))=true:=decide_eq_true (by omega);go_wp2_with fail
     (try rw[Exit.noGoto_ret])
     go_ret2;exact ⟨rfl,HH4.out,HS4.out⟩
end
end
section
open Go.RowKit
section
variable {wb w W W1 W2:World} {g gl gs gx rate:Nat} {m:Man} {ws:List En} {c s sd:Int} {u cnt:Nat} {B:List En} {C:Cks} {P:Pbs} {sure:Int} {K K':Nat→Prop}
end
end
section
open Go.RowKit
section
variable {wb w W W1 W2:World} {g gl gs gx rate:Nat} {m:Man} {ws:List En} {c s sd:Int} {u cnt:Nat} {B:List En} {C:Cks} {P:Pbs} {sure:Int} {K K':Nat→Prop}
end
end
section
open Go.RowKit
def y1E (bs:List Bt) (str:List UInt8) (ex:Int) (L:List Ev):Int:=
 if q0i str 0 L≠0 then q0i str 0 L else if ex< -2 then 2 else if ex≠ -2∧ex≠((q0u bs str).length:Int)-1 then 80 else 0
theorem q3q (bs:List Bt) (s:List UInt8):(q0u bs s).length≤(tos bs).length:=by
 induction bs using q8q with
 |h0=>exact Nat.zero_le _
 | h1 l b ih=>
  rw[q7z,q4V,q9A,List.length_append,q3e]
  split
  ·rw[List.length_append];omega
  ·omega
theorem q9t {str:List UInt8} {L:List Ev} {n:Nat} (h:q0i str 0 L=0) (hn:n≤1000000):q0i str (n:Int) L=0:=by
 obtain ⟨p1,p2,p3,p4,p5,p6,p7⟩:=q1B h;unfold q0i;rw[if_neg (fun e=>e.elim p1 p2),if_neg (by omega),if_neg (by omega)];exact p7
section
variable {wb w W W1 W2:World} {g gl gs gx rate:Nat} {m:Man} {ws:List En} {c s sd:Int} {u cnt:Nat} {B:List En} {C:Cks} {P:Pbs} {sure:Int} {K K':Nat→Prop}
theorem StoP.added (h:StoP wb W1 g gs gl gx rate m ws sd c s u cnt B C sure P K) {f x:Int} {C':Cks} {b:Bt} (hb:z4L b) (hf:b.fi=(q0u (q1k P) b.st).length) (hC:C.length<200) (ha:q1A f C (btB b)=(x,0,C')):
  ∃ pos:Nat,x=(pos:Int)∧pos<4096*200∧ ∀(W:World) (u' cnt':Nat) (sure':Int) (K2:Nat→Prop),IXG wb W g gx gl rate m (q1Q (q0a sd pos b b.ev.length) ws) c s u' cnt' (q1Q (q0a sd pos b b.ev.length) B) C' sure' (fun i=>K2 i∨i=gs)→
   Blk W gs 102 #[.pointer (some ⟨gl,0,none⟩),.pointer (some ⟨gx,0,none⟩),.int .u64 sd]→¬K2 gs→
   StoP wb W g gs gl gx rate m (q1Q (q0a sd pos b b.ev.length) ws) sd c s u' cnt' (q1Q (q0a sd pos b b.ev.length) B) C' sure' (P++[(pos,b)]) K2:=by
 have hok:=h.i.cOk;obtain ⟨pos,rfl,h1,h2,h3,h4,h5,h6⟩:=z1C hok.size (z5s hb) ha;refine ⟨pos,rfl,by omega,fun W u' cnt' sure' K2 hi hbk hk=>⟨hi,hbk,h.sdE,?_,h.stE.snoc hb hf fun y hy=>?_,?_,fun z hz=>?_,⟨hk,h.k.2⟩⟩⟩
 ·rw[h1,h.recE];unfold z4J;rw[List.map_append];rfl
 ·have h7:=z7D (q6Q C 0 hok.size) _ (h.posLt hy)
  have h8:=z3z hok;simp only at h7;omega
 ·have:=h.ckE;omega
 ·rcases mem_addEs.1 hz with hz|hz
  ·unfold q0a at hz
   obtain ⟨k,_,rfl⟩:=List.mem_map.1 hz;show m.ck≤(pos:Int);have:=h.ckE;omega
  ·exact h.wsE z hz
def y1T (wb w:World) (g gs gl gx rate:Nat) (m:Man) (ws:List En) (sd c s:Int) (u cnt:Nat) (B:List En) (C:Cks) (sure:Int) (P:Pbs) (K:Nat→Prop) (str:List UInt8) (L:List Ev) (z:Int) (e:Ending) (w':World):Prop:=
 ((z ≠0∧e= .returned (.tuple #[.int .i64 0,.int .i64 z])∧StoP wb w' g gs gl gx rate m ws sd c s u cnt B C sure P K)∨
  (z=0∧e= .returned (.tuple #[.int .i64 0,.int .i64 60])∧StoP wb w' g gs gl gx rate m ws sd c s u cnt B C sure P K∧c-(u:Int)-2024<6000)∨
  (z =0∧z4L ⟨str,(q0u (q1k P) str).length,L⟩∧ ∃pos ws' B' C' sure',e= .returned (.tuple #[.int .i64 ((q0u (q1k P) str).length:Int),.int .i64 0])∧
   StoP wb w' g gs gl gx rate m ws' sd c s (u+2024) (cnt+1) B' C' sure' (P++[(pos,⟨str,(q0u (q1k P) str).length,L⟩)]) K))∧Stay K w w'
theorem z5v (h :StoP wb w g gs gl gx rate m ws sd c s u cnt B C sure P K) (str:List UInt8) (hs:str.length≤4611686018427387903) (ex:Int) {ao:Option Addr} {n cap:Nat} {L:List Ev} (hx: ∀W,Ext wb W→Stay K w W→Evs W ao n cap L) (hL:q4g L)
  (hwe: ∀e∈L,e.we<18446744073709551616) (hl:B.length≤9000) (hN:(tos (q1k P)).length≤9000) (hC:C.length<200):
  Calls Tryz.prog 12 #[.pointer (some ⟨gs,0,none⟩),.string ⟨str.toArray⟩,.int .i64 ex,.slice ao n cap] w (y1T wb w g gs gl gx rate m ws sd c s u cnt B C sure P K str L (y1E (q1k P) str ex L)):=by
 have hx0:=hx w h.base (Stay.refl _ _);have hlen:=hx0.len;have b1:=hx0.fits;have b2:=hx0.bound;have hev:=q3q (q1k P) str;obtain ⟨N,hNN⟩: ∃N,(q0u (q1k P) str).length=N:=⟨_,rfl⟩
 have HNN:=η44 hNN;have hx1:=q0B w (.cells #[.string ⟨str.toArray⟩,.int .i64 0,.slice ao n cap] 96);have hbk:=Blk.new w 96 #[.string ⟨str.toArray⟩,.int .i64 0,.slice ao n cap];have HCk:=η44 (q9F str 0 _ (hx0.ext hx1) hs hL);have HN:=η44 (fun W (k:Ext (w.alloc (.cells #[.string ⟨str.toArray⟩,.int .i64 0,.slice ao n cap] 96)) W)=>z0o ((h.b.ext hx1).ext k));have HH1:=η44 (h.more (K':=fun i=>K i∨i=w.heap.size) hx1 fun i hi=>hi.imp id fun e=>by rw[World.size_alloc];omega);have HS1:=η44 (h.kExt hx1);have hkq:¬K w.heap.size:=fun e=>by have:=h.klt _ e;omega
 have HKq:=η44 hkq;have HWq:Hid (wb.heap.size≤w.heap.size):=η44 h.base.size;have k0:=hbk.cell 0;have k1:=hbk.cell 1;have k2:=hbk.cell 2;have HBk:=η44 hbk;obtain ⟨z,hz⟩: ∃z,y1E (q1k P) str ex L=z:=⟨_,rfl⟩
 have HZ:=η44 hz;rw[hz];unfold y1E at hz;clear hkq hbk hx0;by_cases hc1:q0i str 0 L=0
 case neg=>
  rw[if_pos hc1] at hz;rw[hz] at HCk hc1;have hd:(z !=0)=true:=by simpa using hc1
  clear hz hx hx1;go_enter Tryz.func12,Tryz.ntmps12;go_wp2_with fail;refine HCk.out.mono ?_;rintro e w1 ⟨rfl,hx⟩;have HX:=η44 hx;clear hx;go_wp2_with fail;refine (HN.out _ HX.out).mono ?_;rintro e w1' ⟨rfl,rfl⟩;go_wp2_with fail;go_ret2;exact ⟨.inl ⟨hc1,rfl,(HH1.out.grow HX.out).beside fun i hi=> .inl hi⟩,HS1.out.trans fun i hi=>HH1.out.kExt HX.out i (.inl hi)⟩
 rw[if_neg (fun h=>h hc1)] at hz;rw[hc1] at HCk;obtain ⟨p1,p2,p3,p4,p5,p6,p7⟩:=q1B hc1;by_cases hc2:ex< -2
 ·rw[if_pos hc2] at hz
  subst hz;have hd:decide (ex< -2)=true:=decide_eq_true hc2;clear hx hx1;go_enter Tryz.func12,Tryz.ntmps12;go_wp2_with fail;refine HCk.out.mono ?_;rintro e w1 ⟨rfl,hx⟩;have HX:=η44 hx;clear hx;go_wp2_with fail;refine (HN.out _ HX.out).mono ?_;rintro e w1' ⟨rfl,rfl⟩;go_wp2_with fail;go_ret2;exact ⟨.inl ⟨by decide,rfl,(HH1.out.grow HX.out).beside fun i hi=> .inl hi⟩,HS1.out.trans fun i hi=>HH1.out.kExt HX.out i (.inl hi)⟩
 rw[if_neg hc2] at hz;have hd:decide (ex< -2)=false:=decide_eq_false hc2;have hsB:q1G str=true:=by
  have:0<str.length:=List.length_pos_iff.2 p1;unfold q1G;rw[decide_eq_true (show 1≤str.length by omega),decide_eq_true p3];rfl
 have hlt:z1K (q1k P) str=((N:Int)-1,0):=by unfold z1K;rw[if_pos hsB,hNN]
 have HLs:=η44 (fun W (k:Ext (w.alloc (.cells #[.string ⟨str.toArray⟩,.int .i64 0,.slice ao n cap] 96)) W)=>z4w (HH1.out.grow k) str hs (by omega) (by omega) hlt);rw[hNN] at hz hev;have hNb:N≤9000:=by omega
 by_cases hc3:ex≠ -2∧ex≠(N:Int)-1
 ·rw[if_pos hc3] at hz
  subst hz;have e1:(ex != -2)=true:=by simpa using hc3.1
  have e2:(ex !=(N:Int)-1)=true:=by simpa using hc3.2
  clear hx hx1;go_enter Tryz.func12,Tryz.ntmps12;go_wp2_with fail;refine HCk.out.mono ?_;rintro e w1 ⟨rfl,hx⟩;have HX:=η44 hx;clear hx;go_wp2_with fail;refine (HN.out _ HX.out).mono ?_;rintro e w1' ⟨rfl,rfl⟩;go_wp2_with fail;refine (HLs.out _ HX.out).mono ?_;rintro e w2 ⟨rfl,hh,hst⟩;have HH2:=η44 hh;have HS2:=η44 hst;clear hh hst;go_wp2_with fail;go_ret2;exact ⟨.inl ⟨by decide,rfl,HH2.out.beside fun i hi=> .inl hi⟩,(HS1.out.trans fun i hi=>HH1.out.kExt HX.out i (.inl hi)).trans fun i hi=>HS2.out i (.inl hi)⟩
 rw[if_neg hc3] at hz;subst hz;have e12:(ex != -2)=false∨((ex != -2)=true∧(ex !=(N:Int)-1)=false):=by
  by_cases h1:ex= -2
  ·exact .inl (by simpa using h1)
  ·by_cases h2:ex=(N:Int)-1
   ·exact .inr ⟨by simpa using h1,by simpa using h2⟩
   ·exact absurd ⟨h1,h2⟩ hc3
 have HOk:Hid (z4L ⟨str,N,L⟩):=η44 ⟨q9t (n:=N) hc1 (by omega),hwe⟩;have HX0:=η44 hx;have q1:IntKind.i64.wrap ((N:Int)-1+1)=(N:Int):=by rw[IntKind.wrap_i64];omega
 clear hc2 hc3 hx1 hx;rcases e12 with e12|⟨e12,e13⟩
 all_goals
  go_enter Tryz.func12,Tryz.ntmps12;go_wp2_with fail;refine HCk.out.mono ?_;rintro e w1 ⟨rfl,hx⟩;have HX:=η44 hx;clear hx;go_wp2_with fail;refine (HN.out _ HX.out).mono ?_;rintro e w1' ⟨rfl,rfl⟩;go_wp2_with fail;refine (HLs.out _ HX.out).mono ?_;rintro e w2 ⟨rfl,hh,hst⟩;have HH2:=η44 hh;have HS2:Hid (Stay K w w2):=η44 ((HS1.out.trans fun i hi=>HH1.out.kExt HX.out i (.inl hi)).trans fun i hi=>hst i (.inl hi));have HB2:=η44 ((HBk.out.ext HX.out).same (hst _ (.inr rfl)));clear hh hst HH1 HS1 HBk k0 k1 k2 HX HLs HN HCk;generalize w.heap.size=q at*;have f1:=HB2.out.free 1;have k0:=HB2.out.cell 0;have k1:=HB2.out.cell 1;have k2:=HB2.out.cell 2;have HB3:Hid (Blk (w2.setCell ⟨q,1,none⟩ (.int .i64 (N:Int))) q 96 #[.string ⟨str.toArray⟩,.int .i64 (N:Int),.slice ao n cap]):=η44 (HB2.out.set 1 (.int .i64 (N:Int)));have HH3:=η44 (HH2.out.poke (.inr rfl) HWq.out 1 (.int .i64 (N:Int)))
  have HS3:=η44 (HS2.out.poke HKq.out 1 (.int .i64 (N:Int)));have j0:=HB3.out.cell 0;have j1:=HB3.out.cell 1;have j2:=HB3.out.cell 2;have HPu:=η44 (y0Y (b:=⟨str,N,L⟩) _ (HX0.out _ HH3.out.base HS3.out) HOk.out);have hpl:=z5s HOk.out;obtain ⟨p,hp⟩: ∃p,btB ⟨str,N,L⟩=p:=⟨_,rfl⟩
  have HPp:=η44 hp;rw[hp] at HPu hpl;clear hp;go_wp2_with fail;refine HPu.out.mono ?_;rintro e w4 ⟨rfl,hx⟩;have HH4:=η44 (HH3.out.grow hx);have HS4:=η44 (HS3.out.trans fun i hi=>HH3.out.kExt hx i (.inl hi));have HB4:=η44 (HB3.out.ext hx);clear hx HPu f1 k0 k1 k2 j0 j1 j2 HB3 HH3 HS3 HB2 HH2 HS2;have HA:=η44 (HH4.out.i.append p hpl hC);obtain ⟨s0,s1,s2⟩:=HH4.out.cells;go_wp2_with fail;refine HA.out.mono ?_;rintro e w5 ⟨⟨f,x,C',sure',hap,rfl,hi⟩|⟨rfl,hi,hno⟩,hst⟩
  ·obtain ⟨pos,rfl,hpos,hadd⟩:=HH4.out.added (b:=⟨str,N,L⟩) HOk.out HNN.out.symm hC (by rw[HPp.out];exact hap)
   have HAd:=η44 hadd;have HGb:=η44 (HH4.out.b.same (hst gs (.inr rfl)));have HB5:=η44 (HB4.out.same (hst q (.inl (.inr rfl))));have HS5:=η44 (HS4.out.trans fun i hi=>hst i (.inl (.inl hi)));have HKg:=η44 HH4.out.k.1;have HSd:=η44 HH4.out.sdE;have hwl: ∀k,(q1Q (q0a sd pos ⟨str,N,L⟩ k) B).length≤B.length+k:=fun k=>by
    have h1:=q6W (q0a sd pos ⟨str,N,L⟩ k) B;rw[q3l] at h1;omega
   have HWl:=η44 hwl;have HHs:=η44 (fun W=>z2w sd str W hs);have HOkE:Hid (∀k,k<n→q3J (q2Z sd pos ⟨str,N,L⟩ k)=true):=η44 (fun k hk=>z2k sd HOk.out.1 (by show k<L.length;omega) hpos);have HEs:=η44 (fun k=>q6a sd pos ⟨str,N,L⟩ k);have HEv:Hid (∀k:Nat,q2Z sd pos ⟨str,N,L⟩ k=(q2P sd str,(N:Int)+(k:Int),(pos:Int))):=η44 fun k=>rfl
   have HI5:=η44 hi;have s2':=HGb.out.cell 2;have s0':=HGb.out.cell 0;generalize q2P sd str=hh at*;clear hadd hi hst HA s0 s1 s2 hap hwl HH4 HB4 HS4;go_wp2_with fail;refine (HHs.out _).mono ?_;rintro e w5' ⟨rfl,rfl⟩;clear s2' s0' HHs;go_wp2_with fail
   go_loopw [83] (fun i W=> ∃k:Nat,k≤n∧i= .int .i64 (k:Int)∧IXG wb W g gx gl rate m (q1Q (q0a sd pos ⟨str,N,L⟩ k) ws) c s (u+(p.length+24)) (cnt+1) (q1Q (q0a sd pos ⟨str,N,L⟩ k) B) C' sure' (fun i=>(K i∨i=q)∨i=gs)∧Stay K w W∧
    Blk W gs 102 #[.pointer (some ⟨gl,0,none⟩),.pointer (some ⟨gx,0,none⟩),.int .u64 sd]∧Blk W q 96 #[.string ⟨str.toArray⟩,.int .i64 (N:Int),.slice ao n cap]) (fun i _=>n-(intOf i).toNat)
   case atStart=>exact ⟨0,Nat.zero_le _,rfl,HI5.out,HS5.out,HGb.out,HB5.out⟩
   case round=>
    obtain ⟨k,hk,rfl,hi,hsy,hgb,hbk⟩:=hrel;have HI6:=η44 hi;have HS6:=η44 hsy;have HG6:=η44 hgb;have HB6:=η44 hbk;by_cases hlt:k<n
    ·have hd7:decide ((k:Int)<(n:Int))=true:=decide_eq_true (by omega)
     have hadd:=(hi.grow (Ext.refl _).drew).add (HOkE.out k hlt) (by have:=HWl.out k;omega)
     rw [show∀M,q3V (q2Z sd pos ⟨str,N,L⟩ k) (q1Q (q0a sd pos ⟨str,N,L⟩ k) M)=q1Q (q0a sd pos ⟨str,N,L⟩ (k+1)) M from fun M=>by
      rw[HEs.out k,q3K (q0a sd pos ⟨str,N,L⟩ k)];rfl,show∀M,q3V (q2Z sd pos ⟨str,N,L⟩ k) (q1Q (q0a sd pos ⟨str,N,L⟩ k) M)=q1Q (q0a sd pos ⟨str,N,L⟩ (k+1)) M from fun M=>by
      rw[HEs.out k,q3K (q0a sd pos ⟨str,N,L⟩ k)];rfl,HEv.out k] at hadd
     have HA:Hid (Calls Tryz.prog 39 #[.pointer (some ⟨gx,0,none⟩),.agg #[.int .u64 hh,.int .i64 ((N:Int)+(k:Int)),.int .i64 (pos:Int)]] wr.drew fun r w'=>r= .returned (.int .i64 0)∧
      IXG wb w' g gx gl rate m (q1Q (q0a sd pos ⟨str,N,L⟩ (k+1)) ws) c s (u+(p.length+24)) (cnt+1) (q1Q (q0a sd pos ⟨str,N,L⟩ (k+1)) B) C' sure' (fun i=>(K i∨i=q)∨i=gs)∧Stay (fun i=>(K i∨i=q)∨i=gs) wr.drew w'):=η44 hadd
     have q7:IntKind.i64.wrap ((N:Int)+(k:Int))=(N:Int)+(k:Int):=by rw[IntKind.wrap_i64];omega
     have q8:IntKind.i64.wrap ((k:Int)+1)=(k:Int)+1:=by rw[IntKind.wrap_i64];omega
     have d1:=q0A (Ext.refl _).drew (hgb.cell 1);have d2:=q0A (Ext.refl _).drew (hbk.cell 1);clear hi hsy hgb hbk hadd;go_wp2_with fail
     go_region_held3 (fun W=>W.cell? ⟨gs,1,none⟩=some (.pointer (some ⟨gx,0,none⟩))∧W.cell? ⟨q,1,none⟩=some (.int .i64 (N:Int)))
      (first|exact HC7.out|exact ⟨d1,d2⟩)
      (first|(go_at_call 39;refine HA.out.mono ?_;rintro e w7 ⟨rfl,hi,hs⟩;have HI7:=η44 hi;have HS7:Hid (Stay K w w7):=η44 (HS6.out.trans (fun i hi=>hs i (.inl (.inl hi))));have HG7:=η44 (HG6.out.same (hs gs (.inr rfl)));have HB7:=η44 (HB6.out.same (hs q (.inl (.inr rfl))));have HC7:=η44 (And.intro (HG7.out.cell 1) (HB7.out.cell 1));clear hi hs))
     all_goals
      clear HC7 d1 d2 HA;go_wp2_with fail
      go_roundw
      case rel=>exact ⟨k+1,by omega,by go_num,HI7.out,HS7.out,HG7.out,HB7.out⟩
      case measure=>simp[intOf];omega
    ·obtain rfl:k=n:=by omega
     have hd7:decide ((k:Int)<(k:Int))=false:=decide_eq_false (by omega);have k1:=hbk.cell 1;clear hi hsy hgb hbk;go_wp2_with fail;go_ret2;have hi6:=HI6.out;rw[←hlen] at hi6;have hfin:=HAd.out wr (u+2024) (cnt+1) sure' K ((hi6.beside fun i hi=>hi.imp .inl id).mono (by omega) (Nat.le_refl _)) HG6.out fun hk=>HKg.out (.inl hk)
     have hres: ∃pos ws' B' C' sure',(Ending.returned (.tuple #[.int .i64 (N:Int),.int .i64 0]))= .returned (.tuple #[.int .i64 ((q0u (q1k P) str).length:Int),.int .i64 0])∧
       StoP wb wr g gs gl gx rate m ws' sd c s (u+2024) (cnt+1) B' C' sure' (P++[(pos,⟨str,(q0u (q1k P) str).length,L⟩)]) K:=⟨pos,_,_,C',sure',by rw[HNN.out],by rw[HNN.out];exact hfin⟩
     exact ⟨.inr (.inr ⟨rfl,by rw[HNN.out];exact HOk.out,hres⟩),HS6.out⟩
  ·have HH5:=η44 (HH4.out.stay hi hst fun i hi=> .inl hi)
   have HS5:=η44 (HS4.out.trans fun i hi=>hst i (.inl (.inl hi)));clear hi hst HA s0 s1 s2;go_wp2_with fail;go_ret2;exact ⟨.inr (.inl ⟨rfl,rfl,HH5.out.beside fun i hi=> .inl hi,by omega⟩),HS5.out⟩
end
end
section
open Go.RowKit
def q3G (str:List UInt8) (fr ct:Int):Int:=if q1G str=false∨fr<0∨ct<1 then 2 else 0
section
variable {wb w W W1 W2:World} {g gl gs gx rate:Nat} {m:Man} {ws:List En} {c s sd:Int} {u cnt:Nat} {B:List En} {C:Cks} {P:Pbs} {sure:Int} {K K':Nat→Prop}
theorem z4x (h:Blk W gs 102 #[.pointer (some ⟨gl,0,none⟩),.pointer (some ⟨gx,0,none⟩),.int .u64 sd]) (str:List UInt8) (hs:str.length≤4611686018427387903) (fr ct:Int):
  Calls Tryz.prog 64 #[.pointer (some ⟨gs,0,none⟩),.string ⟨str.toArray⟩,.int .i64 fr,.int .i64 ct] W fun e w'=>e= .returned (.int .i64 (q3G str fr ct))∧Ext W w':=by
 have HN:=η44 (z0o h);have HNm:=η44 (q8s str W (by omega));clear h
 cases hstr:q1G str with
 | false=>
  have hp:q3G str fr ct=2:=by unfold q3G;rw[if_pos (.inl hstr)]
  rw[hstr] at HNm;rw[hp];go_enter Tryz.func64,Tryz.ntmps64;go_wp2_with fail;refine HN.out.mono ?_;rintro e w1 ⟨rfl,rfl⟩;go_wp2_with fail;refine HNm.out.mono ?_;rintro e w1 ⟨rfl,hx⟩;have HX:=η44 hx;clear hx;go_wp2_with fail;go_ret;exact ⟨rfl,HX.out⟩
 | true =>
  rw[hstr] at HNm;obtain ⟨z,hz⟩: ∃z,q3G str fr ct=z:=⟨_,rfl⟩
  have hzz:(z=2∧decide (fr<0)=true)∨(z=2∧decide (fr<0)=false∧decide (ct<1)=true)∨(z=0∧decide (fr<0)=false∧decide (ct<1)=false):=by
   unfold q3G at hz;rw[hstr] at hz;simp only[Bool.true_eq_false,false_or] at hz
   split at hz
   ·by_cases h1:fr<0
    ·exact .inl ⟨hz.symm,decide_eq_true h1⟩
    ·exact .inr (.inl ⟨hz.symm,decide_eq_false h1,decide_eq_true (by omega)⟩)
   ·exact .inr (.inr ⟨hz.symm,decide_eq_false (by omega),decide_eq_false (by omega)⟩)
  rw[hz];clear hz hstr;rcases hzz with ⟨rfl,h1⟩|⟨rfl,h1,h2⟩|⟨rfl,h1,h2⟩
  all_goals
   go_enter Tryz.func64,Tryz.ntmps64;go_wp2_with fail;refine HN.out.mono ?_;rintro e w1 ⟨rfl,rfl⟩;go_wp2_with fail;refine HNm.out.mono ?_;rintro e w1 ⟨rfl,hx⟩;have HX:=η44 hx;clear hx;go_wp2_with fail;go_ret;exact ⟨rfl,HX.out⟩
def z3l (bs:List Bt) (str:List UInt8) (fr ct:Int):List To:=if q3G str fr ct=0 then q7q (q8K bs str) fr ct else []
def ToldR (wb w:World) (g gs gl gx rate:Nat) (m:Man) (ws:List En) (sd c s:Int) (u cnt:Nat) (B:List En) (C:Cks) (sure:Int) (P:Pbs) (K:Nat→Prop) (R:List To) (z:Int) (e:Ending) (w':World):Prop:=
 ∃v,e= .returned (.tuple #[v,.int .i64 z])∧StoP wb w' g gs gl gx rate m ws sd c s u cnt B C sure P (fun i=>K i∨v.ownBlock=some i)∧Stay K w w'∧w'.ownsRow wb.heap.size 87 5 v R.length (q4i R)∧ ∀i,K i→v.ownBlock≠some i
theorem StoP.slot0 (h:StoP wb W g gs gl gx rate m ws sd c s u cnt B C sure P K):StoP wb W g gs gl gx rate m ws sd c s u cnt B C sure P (fun i=>K i∨(Value.slice none 0 0).ownBlock=some i):=h.beside fun i hi=>hi.elim id fun e=>by cases e
theorem ToldR.nil {w0:World} (h:StoP wb W g gs gl gx rate m ws sd c s u cnt B C sure P K) (hs:Stay K w0 W) (z:Int):ToldR wb w0 g gs gl gx rate m ws sd c s u cnt B C sure P K [] z (.returned (.tuple #[.slice none 0 0,.int .i64 z])) W:=
 ⟨_,rfl,h.slot0,hs,World.ownsRow_nil _ _ _ _,fun i _ e=>by cases e⟩
theorem z3W (h:StoP wb w g gs gl gx rate m ws sd c s u cnt B C sure P K) (str:List UInt8) (hs:str.length≤4611686018427387903) (fr ct:Int) (hf0: -9223372036854775808≤fr) (hf1:fr≤9223372036854775807) (hl:B.length≤10000) (hev:(q0u (q1k P) str).length≤10000):
  Calls Tryz.prog 29 #[.pointer (some ⟨gs,0,none⟩),.string ⟨str.toArray⟩,.int .i64 fr,.int .i64 ct] w (ToldR wb w g gs gl gx rate m ws sd c s u cnt B C sure P K (z3l (q1k P) str fr ct) (q3G str fr ct)):=by
 have HPg:=η44 (z4x h.b str hs fr ct);have HH:=η44 h;obtain ⟨R,hR⟩: ∃R,z3l (q1k P) str fr ct=R:=⟨_,rfl⟩
 rw[hR];unfold z3l at hR;by_cases hz:q3G str fr ct=0
 ·have hfc:0≤fr∧1≤ct:=by
   unfold q3G at hz
   split at hz
   ·cases hz
   ·omega
  rw[if_pos hz] at hR;rw[hz] at HPg⊢;by_cases hbig:1073741824<fr
  ·have hd:decide ((1073741824:Int)<fr)=true:=decide_eq_true hbig
   have hR0:R=[]:=by rw[←hR];exact z6E (by rw[q3h];omega)
   subst hR0;clear hz hR h;go_enter Tryz.func29,Tryz.ntmps29;go_wp2_with fail;refine HPg.out.mono ?_;rintro e w1 ⟨rfl,hx⟩;have HX:=η44 hx;clear hx;go_wp2_with fail;go_ret2;exact ToldR.nil (HH.out.grow HX.out) (HH.out.kExt HX.out) 0
  ·have hd:decide ((1073741824:Int)<fr)=false:=decide_eq_false hbig
   obtain ⟨mn,hmn⟩: ∃mn,min ct 1073741824=mn:=⟨_,rfl⟩
   have hm1:1≤mn∧mn≤1073741824:=by omega
   have q1:IntKind.i64.wrap (fr+mn)=fr+mn:=by rw[IntKind.wrap_i64];omega
   have q2:IntKind.i64.wrap (fr+mn-1)=fr+mn-1:=by rw[IntKind.wrap_i64];omega
   have hpu:=z9F (q1k P) str (f:=fr) (c:=ct) hfc.1 hfc.2 (by omega);rw[hmn,hR] at hpu;have HB:=η44 (fun W (k:Ext w W)=>q6d (h.grow k) str hs fr (fr+mn-1) hl hpu);clear hz hR h hpu;go_enter Tryz.func29,Tryz.ntmps29;go_wp2_with fail;refine HPg.out.mono ?_;rintro e w1 ⟨rfl,hx⟩;have HX:=η44 hx;clear hx;go_wp2_with fail;refine (HB.out _ HX.out).mono ?_;rintro e w2 ⟨v,rfl,hh,hst,hrow,hdj⟩;obtain ⟨ra,rc,rfl⟩:=q0J hrow;have HF:Hid (ToldR wb w g gs gl gx rate m ws sd c s u cnt B C sure P K R 0 (.returned (.tuple #[.slice ra R.length rc,.int .i64 0])) w2):=η44 ⟨_,rfl,hh,(HH.out.kExt HX.out).trans hst,hrow,hdj⟩;clear hh hst hrow hdj HB;go_wp2_with fail;go_ret2;exact HF.out
 ·rw [if_neg hz] at hR
  subst hR;have hz2:q3G str fr ct=2:=by
   unfold q3G at hz⊢
   split at hz
   ·rename_i h1;rw[if_pos h1]
   ·exact absurd rfl hz
  rw[hz2] at HPg⊢;clear hz hz2 h;go_enter Tryz.func29,Tryz.ntmps29;go_wp2_with fail;refine HPg.out.mono ?_;rintro e w1 ⟨rfl,hx⟩;have HX:=η44 hx;clear hx;go_wp2_with fail;go_ret2;exact ToldR.nil (HH.out.grow HX.out) (HH.out.kExt HX.out) 2
end
end
section
open Go.RowKit
theorem z3p {C:Cks} {P:Pbs} (h:q0y 0 C=z4J P) (pos:Int):q2J C pos=z4J (P.filter fun y=>decide (pos≤(y.1:Int))):=by
 unfold q2J;rw[h];unfold z4J;rw[List.filter_map]
 rfl
theorem q6f (sd:Int) {C:Cks} {P:Pbs} (h:q0y 0 C=z4J P) (hb:okBs (q1k P)) (pos:Int):z0i sd (q2J C pos)=some (q4N sd (P.filter fun y=>decide (pos≤(y.1:Int)))):=by
 rw[z3p h,z0E sd fun y hy=>hb.each (List.mem_map.2 ⟨y,(List.mem_filter.1 hy).1,rfl⟩)]
theorem q5L {sd:Int} {P:Pbs} {pos:Int} {x:En}:x∈q4N sd (P.filter fun y=>decide (pos≤(y.1:Int)))↔x∈q4N sd P∧pos≤x.2.2:=by
 rw[mem_entsP,mem_entsP]
 constructor
 ·rintro ⟨y,hy,k,hk,rfl⟩
  obtain ⟨h1,h2⟩:=List.mem_filter.1 hy;exact ⟨⟨y,h1,k,hk,rfl⟩,by show pos≤(y.1:Int);simpa using h2⟩
 ·rintro ⟨⟨y,hy,k,hk,rfl⟩,hp⟩
  exact ⟨y,List.mem_filter.2 ⟨hy,decide_eq_true (show pos≤(y.1:Int) from hp)⟩,k,hk,rfl⟩
theorem z6y {P:Pbs} (h:okBs (q1k P)):P.length≤(tos (q1k P)).length:=by
 induction P using q8q with
 |h0=>exact Nat.zero_le _
 | h1 l a ih=>
  obtain ⟨p,b⟩:=a;rw[q5S] at h⊢;obtain ⟨h1,h2,_⟩:=okBs_snoc.1 h;have h3:=(q1B h2.1).2.1;have h4:=ih h1;have h5:0<b.ev.length:=List.length_pos_iff.2 h3;rw[q4V,q9A,List.length_append,List.length_append,q3e,List.length_singleton];omega
theorem z7o {C:Cks} {P:Pbs} (hok:okC C) (h:q0y 0 C=z4J P):P.Pairwise fun a b=>a.1<b.1:=by
 have h1:=q6Q C 0 hok.size;rw[h] at h1;unfold z4J at h1;rw[List.pairwise_map] at h1;exact h1.imp fun {a b} hab=>by unfold z7T at hab;simp only at hab;omega
section
variable {wb w W W1 W2:World} {g gl gs gx rate:Nat} {m:Man} {ws:List En} {c s sd:Int} {u cnt:Nat} {B:List En} {C:Cks} {P:Pbs} {sure:Int} {K K':Nat→Prop}
structure y1v (sd:Int) (m:Man) (B:List En) (C:Cks) (P:Pbs):Prop where
 sdE:m.sd=sd
 recE:q0y 0 C=z4J P
 ok:okBs (q1k P)
 sub: ∀x∈B,x∈q4N sd P
 all: ∀x∈q4N sd P,x∈B∨m.ck≤x.2.2
 ckE:m.ck≤q4r C
theorem z8k (h:DKQ wb w g m c s u cnt B C K) (hf:y1v sd m B C P) (hs0:0≤sd) (hs1:sd<18446744073709551616) (hcn:40≤cnt) (hN:(tos (q1k P)).length≤2000) (hBn:B.Nodup) (rate:Nat):
  Calls Tryz.prog 32 #[.pointer (some ⟨g,0,none⟩),.int .u64 sd,.float .f64 rate] w fun e w'=>
   ∃gs gl gx m' ws B' sure,e= .returned (.tuple #[.pointer (some ⟨gs,0,none⟩),.int .i64 0])∧StoP wb w' g gs gl gx rate m' ws sd c s u cnt B' C sure P K∧(m'.nx≤m.nx∨m'.nx=0)∧Stay K w w':=by
 have hok:okC C:=by obtain ⟨_,_,_,_,_,_,_,_,h5⟩:=h;exact h5
 have hman:m.ok:=by obtain ⟨st,_,_,_,rfl,_,_,⟨h4,_⟩,_⟩:=h;exact h4.man
 have hpl:=z6y hf.ok;have hBl:B.length≤2000:=by
  have:=q6P hBn (m:=q4N sd P) fun x hx=>hf.sub x hx
  rw[q5s] at this;omega
 have hrl:(q0y 0 C).length≤2000:=by rw[hf.recE,q7K];omega
 have hfl:=(Man.bounds hman).2.1;have HO:=η44 h.lopen;have hwb:=h;clear h;go_enter Tryz.func32,Tryz.ntmps32;go_wp2_with fail;refine HO.out.mono ?_;rintro e w1 ⟨gl,rfl,hd,hst⟩;have HS1:=η44 hst;have HR:=η44 (z9x hd (by omega) (by omega) hs0 hs1 rate);clear hd hst HO;go_wp2_with fail;refine HR.out.mono ?_;rintro e w2 ⟨⟨gx,m',B2,D,an,rfl,hi,hr,hw⟩|⟨rfl,_,hb⟩,hst⟩
 case inr=>
  exfalso
  rcases hb with ⟨_,hb⟩|hb
  ·rw[q6f sd hf.recE hf.ok] at hb;cases hb
  ·rw[q6f sd hf.recE hf.ok] at hb;cases hb
 rw[q6f sd hf.recE hf.ok] at hr;obtain rfl:=Option.some.inj hr;have hfin:m'.sd=sd∧(m'.nx≤m.nx∨m'.nx=0)∧StI sd (q1Q (q4N sd (P.filter fun y=>decide (m'.ck≤(y.1:Int)))) B2) P∧m'.ck≤q4r C∧ ∀x∈q1Q (q4N sd (P.filter fun y=>decide (m'.ck≤(y.1:Int)))) [],m'.ck≤x.2.2:=by
  have hpos:=z7o hok hf.recE;rcases hw with ⟨_,rfl,h1,h2,h3,h4⟩|⟨_,rfl,rfl,_⟩
  ·refine ⟨h1,.inl (Int.le_refl _),⟨hf.ok,hpos,fun x=>?_⟩,h2,fun x hx=>?_⟩
   ·rw [mem_addEs,q5L,←h4]
    constructor
    ·rintro (hx|hx)
     ·exact hx.1
     ·exact hf.sub x hx
    ·intro hx
     rcases hf.all x hx with h5|h5
     ·exact .inr h5
     ·exact .inl ⟨hx,h5⟩
   ·rw[mem_addEs,q5L] at hx
    rcases hx with hx|hx
    ·exact hx.2
    ·cases hx
  ·refine ⟨rfl,.inr rfl,⟨hf.ok,hpos,fun x=>?_⟩,(z9P hok).1,fun x hx=>?_⟩
   ·rw [mem_addEs,q5L]
    constructor
    ·rintro (hx|hx)
     ·exact hx.1
     ·cases hx
    ·intro hx
     obtain ⟨y,hy,k,hk,rfl⟩:=mem_entsP.1 hx;exact .inl ⟨hx,by show (0:Int)≤(y.1:Int);omega⟩
   ·rw[mem_addEs,q5L] at hx
    rcases hx with hx|hx
    ·exact hx.2
    ·cases hx
 obtain ⟨f1,f2,f3,f4,f5⟩:=hfin;have hx3:=q0B w2 (.cells #[.pointer (some ⟨gl,0,none⟩),.pointer (some ⟨gx,0,none⟩),.int .u64 sd] 102);have hkq:¬K w2.heap.size:=fun e=>by have:=hi.klt _ e;omega
 have HF:Hid (StoP wb (w2.alloc (.cells #[.pointer (some ⟨gl,0,none⟩),.pointer (some ⟨gx,0,none⟩),.int .u64 sd] 102)) g w2.heap.size gl gx rate m' _ sd c s u cnt _ C (q4r C) P K):=η44
  ⟨hi.more hx3 (fun i hi=>hi.imp id fun e=>by rw[World.size_alloc];omega),Blk.new w2 _ _,f1,hf.recE,f3,f4,f5,⟨hkq,hi.base.size⟩⟩
 have HS2:Hid (Stay K w (w2.alloc (.cells #[.pointer (some ⟨gl,0,none⟩),.pointer (some ⟨gx,0,none⟩),.int .u64 sd] 102))):=η44 ((HS1.out.trans hst).trans (hi.kExt hx3));have HNx:=η44 f2;clear hi hr hw hst f1 f2 f3 f4 f5 hx3 hkq HR;go_wp2_with fail;go_ret2;exact ⟨_,gl,gx,m',_,_,_,rfl,HF.out,HNx.out,HS2.out⟩
end
end
section
open Go.RowKit
section
variable {wb w W W':World} {g gx gl rate:Nat} {m:Man} {ws:List En} {c s:Int} {u cnt:Nat} {B:List En} {C C':Cks} {sure sd:Int} {K K':Nat→Prop}
end
end
section
open Go.RowKit
section
variable {wb w W W':World} {g gx gl rate:Nat} {m:Man} {ws:List En} {c s:Int} {u cnt:Nat} {B:List En} {C C':Cks} {sure sd:Int} {K K' Z:Nat→Prop}
end
end
section
open Go.RowKit
end
end Go.Proofs.YthdekbmdkpcooaaGreatDoor
