/- Walks. -/
import Derived.Test.YthdekbmdkpcooaaGreatDoorG42WP
set_option linter.unusedVariables false
set_option linter.unusedSimpArgs false
set_option maxRecDepth 100000
set_option maxHeartbeats 6400000
namespace Go.Proofs.YthdekbmdkpcooaaGreatDoor
section
open Go.RowKit
def q4z (str:List UInt8) (fr ct:Int):Int:=if q1s str=false∨fr<0∨ct<1 then 2 else 0
section
variable {wb w W W1 W2:World} {g gl gs gx rate:Nat} {m:Man} {ws:List En} {c s sd:Int} {u cnt:Nat} {B:List En} {C:Cks} {P:Pbs} {sure:Int} {K K':Nat→Prop}
theorem z8z (h:Blk W gs 102 #[.pointer (some ⟨gl,0,none⟩),.pointer (some ⟨gx,0,none⟩),.int .u64 sd]) (str:List UInt8) (hs:str.length≤4611686018427387903) (fr ct:Int):
  Calls Tryz.prog 64 #[.pointer (some ⟨gs,0,none⟩),.string ⟨str.toArray⟩,.int .i64 fr,.int .i64 ct] W fun e w'=>e= .returned (.int .i64 (q4z str fr ct))∧Ext W w':=by
 have HN:=Lib.hid (q7d h);have HNm:=Lib.hid (z3S str W (by omega));clear h
 cases hstr:q1s str with
 | false=>
  have hp:q4z str fr ct=2:=by unfold q4z;rw[if_pos (.inl hstr)]
  rw[hstr] at HNm;rw[hp];go_enter Tryz.func64,Tryz.ntmps64;go_wp2_with fail;refine HN.out.mono ?_;rintro e w1 ⟨rfl,rfl⟩;go_wp2_with fail;refine HNm.out.mono ?_;rintro e w1 ⟨rfl,hx⟩;have HX:=Lib.hid hx;clear hx;go_wp2_with fail;go_ret;exact ⟨rfl,HX.out⟩
 | true =>
  rw[hstr] at HNm;obtain ⟨z,hz⟩: ∃z,q4z str fr ct=z:=⟨_,rfl⟩
  have hzz:(z=2∧decide (fr<0)=true)∨(z=2∧decide (fr<0)=false∧decide (ct<1)=true)∨(z=0∧decide (fr<0)=false∧decide (ct<1)=false):=by
   unfold q4z at hz;rw[hstr] at hz;simp only[Bool.true_eq_false,false_or] at hz
   split at hz
   ·by_cases h1:fr<0
    ·exact .inl ⟨hz.symm,decide_eq_true h1⟩
    ·exact .inr (.inl ⟨hz.symm,decide_eq_false h1,decide_eq_true (by omega)⟩)
   ·exact .inr (.inr ⟨hz.symm,decide_eq_false (by omega),decide_eq_false (by omega)⟩)
  rw[hz];clear hz hstr;rcases hzz with ⟨rfl,h1⟩|⟨rfl,h1,h2⟩|⟨rfl,h1,h2⟩
  all_goals
   go_enter Tryz.func64,Tryz.ntmps64;go_wp2_with fail;refine HN.out.mono ?_;rintro e w1 ⟨rfl,rfl⟩;go_wp2_with fail;refine HNm.out.mono ?_;rintro e w1 ⟨rfl,hx⟩;have HX:=Lib.hid hx;clear hx;go_wp2_with fail;go_ret;exact ⟨rfl,HX.out⟩
def z6j (bs:List Bt) (str:List UInt8) (fr ct:Int):List To:=if q4z str fr ct=0 then q7s (z0h bs str) fr ct else []
def ToldR (wb w:World) (g gs gl gx rate:Nat) (m:Man) (ws:List En) (sd c s:Int) (u cnt:Nat) (B:List En) (C:Cks) (sure:Int) (P:Pbs) (K:Nat→Prop) (R:List To) (z:Int) (e:Ending) (w':World):Prop:=
 ∃v,e= .returned (.tuple #[v,.int .i64 z])∧StoP wb w' g gs gl gx rate m ws sd c s u cnt B C sure P (fun i=>K i∨v.ownBlock=some i)∧Stay K w w'∧w'.ownsRow wb.heap.size 87 5 v R.length (q5E R)∧ ∀i,K i→v.ownBlock≠some i
theorem StoP.slot0 (h:StoP wb W g gs gl gx rate m ws sd c s u cnt B C sure P K):StoP wb W g gs gl gx rate m ws sd c s u cnt B C sure P (fun i=>K i∨(Value.slice none 0 0).ownBlock=some i):=h.beside fun i hi=>hi.elim id fun e=>by cases e
theorem ToldR.nil {w0:World} (h:StoP wb W g gs gl gx rate m ws sd c s u cnt B C sure P K) (hs:Stay K w0 W) (z:Int):ToldR wb w0 g gs gl gx rate m ws sd c s u cnt B C sure P K [] z (.returned (.tuple #[.slice none 0 0,.int .i64 z])) W:=
 ⟨_,rfl,h.slot0,hs,World.ownsRow_nil _ _ _ _,fun i _ e=>by cases e⟩
theorem z3l (h:StoP wb w g gs gl gx rate m ws sd c s u cnt B C sure P K) (str:List UInt8) (hs:str.length≤4611686018427387903) (fr ct:Int) (hf0: -9223372036854775808≤fr) (hf1:fr≤9223372036854775807) (hl:B.length≤10000) (hev:(q0T (q1f P) str).length≤10000):
  Calls Tryz.prog 29 #[.pointer (some ⟨gs,0,none⟩),.string ⟨str.toArray⟩,.int .i64 fr,.int .i64 ct] w (ToldR wb w g gs gl gx rate m ws sd c s u cnt B C sure P K (z6j (q1f P) str fr ct) (q4z str fr ct)):=by
 have HPg:=Lib.hid (z8z h.b str hs fr ct);have HH:=Lib.hid h;obtain ⟨R,hR⟩: ∃R,z6j (q1f P) str fr ct=R:=⟨_,rfl⟩
 rw[hR];unfold z6j at hR;by_cases hz:q4z str fr ct=0
 ·have hfc:0≤fr∧1≤ct:=by
   unfold q4z at hz
   split at hz
   ·cases hz
   ·omega
  rw[if_pos hz] at hR;rw[hz] at HPg⊢;by_cases hbig:1073741824<fr
  ·have hd:decide ((1073741824:Int)<fr)=true:=decide_eq_true hbig
   have hR0:R=[]:=by rw[←hR];exact z6L (by rw[q4x];omega)
   subst hR0;clear hz hR h;go_enter Tryz.func29,Tryz.ntmps29;go_wp2_with fail;refine HPg.out.mono ?_;rintro e w1 ⟨rfl,hx⟩;have HX:=Lib.hid hx;clear hx;go_wp2_with fail;go_ret2;exact ToldR.nil (HH.out.grow HX.out) (HH.out.kExt HX.out) 0
  ·have hd:decide ((1073741824:Int)<fr)=false:=decide_eq_false hbig
   obtain ⟨mn,hmn⟩: ∃mn,min ct 1073741824=mn:=⟨_,rfl⟩
   have hm1:1≤mn∧mn≤1073741824:=by omega
   have q1:IntKind.i64.wrap (fr+mn)=fr+mn:=by rw[IntKind.wrap_i64];omega
   have q2:IntKind.i64.wrap (fr+mn-1)=fr+mn-1:=by rw[IntKind.wrap_i64];omega
   have hpu:=z9H (q1f P) str (f:=fr) (c:=ct) hfc.1 hfc.2 (by omega);rw[hmn,hR] at hpu;have HB:=Lib.hid (fun W (k:Ext w W)=>z0F (h.grow k) str hs fr (fr+mn-1) hl hpu);clear hz hR h hpu;go_enter Tryz.func29,Tryz.ntmps29;go_wp2_with fail;refine HPg.out.mono ?_;rintro e w1 ⟨rfl,hx⟩;have HX:=Lib.hid hx;clear hx;go_wp2_with fail;refine (HB.out _ HX.out).mono ?_;rintro e w2 ⟨v,rfl,hh,hst,hrow,hdj⟩;obtain ⟨ra,rc,rfl⟩:=q0G hrow;have HF:Hid (ToldR wb w g gs gl gx rate m ws sd c s u cnt B C sure P K R 0 (.returned (.tuple #[.slice ra R.length rc,.int .i64 0])) w2):=Lib.hid ⟨_,rfl,hh,(HH.out.kExt HX.out).trans hst,hrow,hdj⟩;clear hh hst hrow hdj HB;go_wp2_with fail;go_ret2;exact HF.out
 ·rw [if_neg hz] at hR
  subst hR;have hz2:q4z str fr ct=2:=by
   unfold q4z at hz⊢
   split at hz
   ·rename_i h1;rw[if_pos h1]
   ·exact absurd rfl hz
  rw[hz2] at HPg⊢;clear hz hz2 h;go_enter Tryz.func29,Tryz.ntmps29;go_wp2_with fail;refine HPg.out.mono ?_;rintro e w1 ⟨rfl,hx⟩;have HX:=Lib.hid hx;clear hx;go_wp2_with fail;go_ret2;exact ToldR.nil (HH.out.grow HX.out) (HH.out.kExt HX.out) 2
end
end
section
open Go.RowKit
theorem z4H {C:Cks} {P:Pbs} (h:q0w 0 C=q9J P) (pos:Int):q1p C pos=q9J (P.filter fun y=>decide (pos≤(y.1:Int))):=by
 unfold q1p;rw[h];unfold q9J;rw[List.filter_map]
 rfl
theorem q6o (sd:Int) {C:Cks} {P:Pbs} (h:q0w 0 C=q9J P) (hb:okBs (q1f P)) (pos:Int):z1D sd (q1p C pos)=some (q4O sd (P.filter fun y=>decide (pos≤(y.1:Int)))):=by
 rw[z4H h,q9q sd fun y hy=>hb.each (List.mem_map.2 ⟨y,(List.mem_filter.1 hy).1,rfl⟩)]
theorem q5a {sd:Int} {P:Pbs} {pos:Int} {x:En}:x∈q4O sd (P.filter fun y=>decide (pos≤(y.1:Int)))↔x∈q4O sd P∧pos≤x.2.2:=by
 rw[mem_entsP,mem_entsP]
 constructor
 ·rintro ⟨y,hy,k,hk,rfl⟩
  obtain ⟨h1,h2⟩:=List.mem_filter.1 hy;exact ⟨⟨y,h1,k,hk,rfl⟩,by show pos≤(y.1:Int);simpa using h2⟩
 ·rintro ⟨⟨y,hy,k,hk,rfl⟩,hp⟩
  exact ⟨y,List.mem_filter.2 ⟨hy,decide_eq_true (show pos≤(y.1:Int) from hp)⟩,k,hk,rfl⟩
theorem z7t {P:Pbs} (h:okBs (q1f P)):P.length≤(tos (q1f P)).length:=by
 induction P using q9L with
 |h0=>exact Nat.zero_le _
 | h1 l a ih=>
  obtain ⟨p,b⟩:=a;rw[q4K] at h⊢;obtain ⟨h1,h2,_⟩:=okBs_snoc.1 h;have h3:=(q0j h2.1).2.1;have h4:=ih h1;have h5:0<b.ev.length:=List.length_pos_iff.2 h3;rw[q2P,q5y,List.length_append,List.length_append,q3k,List.length_singleton];omega
theorem z8L {C:Cks} {P:Pbs} (hok:okC C) (h:q0w 0 C=q9J P):P.Pairwise fun a b=>a.1<b.1:=by
 have h1:=q6a C 0 hok.size;rw[h] at h1;unfold q9J at h1;rw[List.pairwise_map] at h1;exact h1.imp fun {a b} hab=>by unfold z7w at hab;simp only at hab;omega
section
variable {wb w W W1 W2:World} {g gl gs gx rate:Nat} {m:Man} {ws:List En} {c s sd:Int} {u cnt:Nat} {B:List En} {C:Cks} {P:Pbs} {sure:Int} {K K':Nat→Prop}
structure y2Z (sd:Int) (m:Man) (B:List En) (C:Cks) (P:Pbs):Prop where
 sdE:m.sd=sd
 recE:q0w 0 C=q9J P
 ok:okBs (q1f P)
 sub: ∀x∈B,x∈q4O sd P
 all: ∀x∈q4O sd P,x∈B∨m.ck≤x.2.2
 ckE:m.ck≤q4v C
theorem y0N (h:DKQ wb w g m c s u cnt B C K) (hf:y2Z sd m B C P) (hs0:0≤sd) (hs1:sd<18446744073709551616) (hcn:40≤cnt) (hN:(tos (q1f P)).length≤2000) (hBn:B.Nodup) (rate:Nat):
  Calls Tryz.prog 32 #[.pointer (some ⟨g,0,none⟩),.int .u64 sd,.float .f64 rate] w fun e w'=>
   ∃gs gl gx m' ws B' sure,e= .returned (.tuple #[.pointer (some ⟨gs,0,none⟩),.int .i64 0])∧StoP wb w' g gs gl gx rate m' ws sd c s u cnt B' C sure P K∧(m'.nx≤m.nx∨m'.nx=0)∧Stay K w w':=by
 have hok:okC C:=by obtain ⟨_,_,_,_,_,_,_,_,h5⟩:=h;exact h5
 have hman:m.ok:=by obtain ⟨st,_,_,_,rfl,_,_,⟨h4,_⟩,_⟩:=h;exact h4.man
 have hpl:=z7t hf.ok;have hBl:B.length≤2000:=by
  have:=q6Z hBn (m:=q4O sd P) fun x hx=>hf.sub x hx
  rw[q6J] at this;omega
 have hrl:(q0w 0 C).length≤2000:=by rw[hf.recE,q7A];omega
 have hfl:=(Man.bounds hman).2.1;have HO:=Lib.hid h.lopen;have hwb:=h;clear h;go_enter Tryz.func32,Tryz.ntmps32;go_wp2_with fail;refine HO.out.mono ?_;rintro e w1 ⟨gl,rfl,hd,hst⟩;have HS1:=Lib.hid hst;have HR:=Lib.hid (y0H hd (by omega) (by omega) hs0 hs1 rate);clear hd hst HO;go_wp2_with fail;refine HR.out.mono ?_;rintro e w2 ⟨⟨gx,m',B2,D,an,rfl,hi,hr,hw⟩|⟨rfl,_,hb⟩,hst⟩
 case inr=>
  exfalso
  rcases hb with ⟨_,hb⟩|hb
  ·rw[q6o sd hf.recE hf.ok] at hb;cases hb
  ·rw[q6o sd hf.recE hf.ok] at hb;cases hb
 rw[q6o sd hf.recE hf.ok] at hr;obtain rfl:=Option.some.inj hr;have hfin:m'.sd=sd∧(m'.nx≤m.nx∨m'.nx=0)∧StI sd (q1R (q4O sd (P.filter fun y=>decide (m'.ck≤(y.1:Int)))) B2) P∧m'.ck≤q4v C∧ ∀x∈q1R (q4O sd (P.filter fun y=>decide (m'.ck≤(y.1:Int)))) [],m'.ck≤x.2.2:=by
  have hpos:=z8L hok hf.recE;rcases hw with ⟨_,rfl,h1,h2,h3,h4⟩|⟨_,rfl,rfl,_⟩
  ·refine ⟨h1,.inl (Int.le_refl _),⟨hf.ok,hpos,fun x=>?_⟩,h2,fun x hx=>?_⟩
   ·rw [mem_addEs,q5a,←h4]
    constructor
    ·rintro (hx|hx)
     ·exact hx.1
     ·exact hf.sub x hx
    ·intro hx
     rcases hf.all x hx with h5|h5
     ·exact .inr h5
     ·exact .inl ⟨hx,h5⟩
   ·rw[mem_addEs,q5a] at hx
    rcases hx with hx|hx
    ·exact hx.2
    ·cases hx
  ·refine ⟨rfl,.inr rfl,⟨hf.ok,hpos,fun x=>?_⟩,(z8y hok).1,fun x hx=>?_⟩
   ·rw [mem_addEs,q5a]
    constructor
    ·rintro (hx|hx)
     ·exact hx.1
     ·cases hx
    ·intro hx
     obtain ⟨y,hy,k,hk,rfl⟩:=mem_entsP.1 hx;exact .inl ⟨hx,by show (0:Int)≤(y.1:Int);omega⟩
   ·rw[mem_addEs,q5a] at hx
    rcases hx with hx|hx
    ·exact hx.2
    ·cases hx
 obtain ⟨f1,f2,f3,f4,f5⟩:=hfin;have hx3:=q0B w2 (.cells #[.pointer (some ⟨gl,0,none⟩),.pointer (some ⟨gx,0,none⟩),.int .u64 sd] 102);have hkq:¬K w2.heap.size:=fun e=>by have:=hi.klt _ e;omega
 have HF:Hid (StoP wb (w2.alloc (.cells #[.pointer (some ⟨gl,0,none⟩),.pointer (some ⟨gx,0,none⟩),.int .u64 sd] 102)) g w2.heap.size gl gx rate m' _ sd c s u cnt _ C (q4v C) P K):=Lib.hid
  ⟨hi.more hx3 (fun i hi=>hi.imp id fun e=>by rw[World.size_alloc];omega),Blk.new w2 _ _,f1,hf.recE,f3,f4,f5,⟨hkq,hi.base.size⟩⟩
 have HS2:Hid (Stay K w (w2.alloc (.cells #[.pointer (some ⟨gl,0,none⟩),.pointer (some ⟨gx,0,none⟩),.int .u64 sd] 102))):=Lib.hid ((HS1.out.trans hst).trans (hi.kExt hx3));have HNx:=Lib.hid f2;clear hi hr hw hst f1 f2 f3 f4 f5 hx3 hkq HR;go_wp2_with fail;go_ret2;exact ⟨_,gl,gx,m',_,_,_,rfl,HF.out,HNx.out,HS2.out⟩
end
end
section
open Go.RowKit
section
variable {wb w W W':World} {g gx gl rate:Nat} {m:Man} {ws:List En} {c s:Int} {u cnt:Nat} {B:List En} {C C':Cks} {sure sd:Int} {K K':Nat→Prop}
end
end
section
open Go.RowKit
section
variable {wb w W W':World} {g gx gl rate:Nat} {m:Man} {ws:List En} {c s:Int} {u cnt:Nat} {B:List En} {C C':Cks} {sure sd:Int} {K K' Z:Nat→Prop}
end
end
section
open Go.RowKit
end
end Go.Proofs.YthdekbmdkpcooaaGreatDoor
