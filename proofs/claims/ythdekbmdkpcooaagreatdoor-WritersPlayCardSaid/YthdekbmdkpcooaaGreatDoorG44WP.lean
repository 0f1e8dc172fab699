/- The shelf's contract of slices.Reverse at []api.Told at this seat, in plain words. -/
import Derived.Shelf.SlicesQ.Reverse
import Derived.Ground.SlgnProg
import Derived.Test.YthdekbmdkpcooaaGreatDoorG43WP
set_option linter.unusedVariables false
set_option linter.unusedSimpArgs false
set_option maxRecDepth 100000
set_option maxHeartbeats 12800000
namespace Go.Proofs
open Go.Shelf
end Go.Proofs
namespace Go.Proofs.YthdekbmdkpcooaaGreatDoor
theorem η44 {p:Prop} (h:p):Go.RowKit.Hid p:=Lib.hid h
section
open Go.RowKit Go.Sort Go.Lib
instance : Inhabited To:=⟨to0⟩
section
variable {wb w W W1 W2:World} {g gl gs gx rate:Nat} {m:Man} {ws:List En} {c s sd:Int} {u cnt:Nat} {B:List En} {C:Cks} {P:Pbs} {sure:Int} {K K':Nat→Prop}
end
end
section
open Go.RowKit
theorem z0Q : ∀(C:Cks) (b:Nat),(∀ps∈C,ps≠[])→C.length≤(q0w b C).length
 |[],_,_=>Nat.le_refl _
 | ps::t,b,h=>by
  have h1:=z0Q t (b+4096) fun q hq=>h q (.tail _ hq)
  have h2:0<ps.length:=List.length_pos_iff.2 (h ps (.head _));rw[q0w,List.length_append,q4N,List.length_cons];omega
theorem q9c {bs:List Bt} (h:okBs bs):(tos bs).length≤8*bs.length:=by
 induction bs using q9L with
 |h0=>exact Nat.le_refl _
 | h1 l b ih=>
  obtain ⟨h1,h2,_⟩:=okBs_snoc.1 h;have h3:=(q0j h2.1).2.2.2.1;have h4:=ih h1;rw[q2P,q5y,List.length_append,q3k,List.length_append,List.length_singleton];omega
def SK (wb W:World) (g gs rate:Nat) (sd c s:Int) (u n:Nat) (bs:List Bt) (K:Nat→Prop):Prop:=
 ∃gl gx m ws B C sure P,StoP wb W g gs gl gx rate m ws sd c s u (40+3*n) B C sure P K∧q1f P=bs∧m.nx≤n∧bs.length≤n∧0≤sd∧sd<18446744073709551616
def SQ (wb W:World) (g:Nat) (sd c s:Int) (u n:Nat) (bs:List Bt) (K:Nat→Prop):Prop:=
 ∃m B C P,DKQ wb W g m c s u (40+3*n) B C K∧y2Z sd m B C P∧B.Nodup∧q1f P=bs∧m.nx≤n∧bs.length≤n∧0≤sd∧sd<18446744073709551616
section
variable {wb w W W':World} {g gs rate u n:Nat} {sd c s:Int} {bs:List Bt} {K K':Nat→Prop}
theorem StoP.bounds {gl gx:Nat} {m:Man} {ws:List En} {cnt:Nat} {B:List En} {C:Cks} {sure:Int} {P:Pbs} (h:StoP wb W g gs gl gx rate m ws sd c s u cnt B C sure P K) (hb:q1f P=bs) (hn:bs.length≤n):
  (tos bs).length≤8*n∧B.length≤8*n∧C.length≤n∧okBs bs:=by
 have hok:okBs bs:=hb▸h.stE.ok;have h1:=q9c hok;have h2:=h.len;rw[hb] at h2;have h3:=z0Q C 0 h.i.cOk.full;rw[h.recE,q7A] at h3;have h4:bs.length=P.length:=by rw[←hb];exact List.length_map _
 exact ⟨by omega,by omega,by omega,hok⟩
theorem SK.few (h:SK wb W g gs rate sd c s u n bs K):bs.length≤n∧(tos bs).length≤8*n:=by
 obtain ⟨gl,gx,m,ws,B,C,sure,P,h1,h2,_,h4,_⟩:=h;exact ⟨h4,(h1.bounds h2 h4).1⟩
theorem SK.base (h:SK wb W g gs rate sd c s u n bs K):Ext wb W:=by
 obtain ⟨gl,gx,m,ws,B,C,sure,P,h1,_⟩:=h;exact h1.base
theorem SK.klt (h:SK wb W g gs rate sd c s u n bs K): ∀i,K i→i<W.heap.size:=by
 obtain ⟨gl,gx,m,ws,B,C,sure,P,h1,_⟩:=h;exact h1.klt
theorem SK.grow (h:SK wb W g gs rate sd c s u n bs K) (k:Ext W W'):SK wb W' g gs rate sd c s u n bs K:=by
 obtain ⟨gl,gx,m,ws,B,C,sure,P,h1,h2⟩:=h;exact ⟨gl,gx,m,ws,B,C,sure,P,h1.grow k,h2⟩
theorem SK.kExt (h:SK wb W g gs rate sd c s u n bs K) (k:Ext W W'):Stay K W W':=fun i hi=>k.block i (h.klt i hi)
theorem SK.more (h:SK wb W g gs rate sd c s u n bs K) (k:Ext W W') (hK: ∀i,K' i→K i∨(W.heap.size≤i∧i<W'.heap.size)):SK wb W' g gs rate sd c s u n bs K':=by
 obtain ⟨gl,gx,m,ws,B,C,sure,P,h1,h2⟩:=h;exact ⟨gl,gx,m,ws,B,C,sure,P,h1.more k hK,h2⟩
theorem SK.beside (h:SK wb W g gs rate sd c s u n bs K) (k: ∀i,K' i→K i):SK wb W g gs rate sd c s u n bs K':=by
 obtain ⟨gl,gx,m,ws,B,C,sure,P,h1,h2⟩:=h;exact ⟨gl,gx,m,ws,B,C,sure,P,h1.beside k,h2⟩
theorem SK.sideM (h:SK wb W g gs rate sd c s u n bs K) (hs:W.heap.size≤W'.heap.size) (hx:Ext wb W') (k: ∀i,i<W.heap.size→¬K i→W'.heap[i]? =W.heap[i]?) (hK: ∀i,K' i→K i∨(W.heap.size≤i∧i<W'.heap.size)):SK wb W' g gs rate sd c s u n bs K':=by
 obtain ⟨gl,gx,m,ws,B,C,sure,P,h1,h2⟩:=h;exact ⟨gl,gx,m,ws,B,C,sure,P,h1.sideM hs hx k hK,h2⟩
def EvR (wb w:World) (g gs rate:Nat) (sd c s:Int) (u n:Nat) (bs:List Bt) (K:Nat→Prop) (R:List To) (z:Int) (e:Ending) (w':World):Prop:=
 ∃v,e= .returned (.tuple #[v,.int .i64 z])∧SK wb w' g gs rate sd c s u n bs (fun i=>K i∨v.ownBlock=some i)∧Stay K w w'∧w'.ownsRow wb.heap.size 87 5 v R.length (q5E R)∧ ∀i,K i→v.ownBlock≠some i
theorem SK.last (h:SK wb w g gs rate sd c s u n bs K) (hn:n≤1000) (str:List UInt8) (hs:str.length≤4611686018427387903) {x y:Int} (hr:q3c bs str=(x,y)):
  Calls Tryz.prog 28 #[.pointer (some ⟨gs,0,none⟩),.string ⟨str.toArray⟩] w fun e w'=>e= .returned (.tuple #[.int .i64 x,.int .i64 y])∧SK wb w' g gs rate sd c s u n bs K∧Stay K w w':=by
 obtain ⟨gl,gx,m,ws,B,C,sure,P,h1,rfl,h3,h4,h5⟩:=h;obtain ⟨b1,b2,b3,b4⟩:=h1.bounds rfl h4;have b5:=q3q (q1f P) str;refine (z5o h1 str hs (by omega) (by omega) hr).mono ?_;rintro e w' ⟨rfl,k1,k2⟩;exact ⟨rfl,⟨gl,gx,m,ws,B,C,sure,P,k1,rfl,h3,h4,h5⟩,k2⟩
theorem SK.all (h:SK wb w g gs rate sd c s u n bs K) (hn:n≤1000):Calls Tryz.prog 17 #[.pointer (some ⟨gs,0,none⟩)] w (EvR wb w g gs rate sd c s u n bs K (tos bs) 0):=by
 obtain ⟨gl,gx,m,ws,B,C,sure,P,h1,rfl,h3,h4,h5⟩:=h;obtain ⟨b1,b2,b3,b4⟩:=h1.bounds rfl h4;refine (y0x h1 rfl (by omega)).mono ?_;rintro e w' ⟨v,rfl,k1,k2⟩;exact ⟨v,rfl,⟨gl,gx,m,ws,B,C,sure,P,k1,rfl,h3,h4,h5⟩,k2⟩
theorem SK.forward (h:SK wb w g gs rate sd c s u n bs K) (hn:n≤1000) (str:List UInt8) (hs:str.length≤4611686018427387903) (fr ct:Int) (hf0: -9223372036854775808≤fr) (hf1:fr≤9223372036854775807):
  Calls Tryz.prog 29 #[.pointer (some ⟨gs,0,none⟩),.string ⟨str.toArray⟩,.int .i64 fr,.int .i64 ct] w (EvR wb w g gs rate sd c s u n bs K (z6j bs str fr ct) (q4z str fr ct)):=by
 obtain ⟨gl,gx,m,ws,B,C,sure,P,h1,rfl,h3,h4,h5⟩:=h;obtain ⟨b1,b2,b3,b4⟩:=h1.bounds rfl h4;have b5:=q3q (q1f P) str;refine (z3l h1 str hs fr ct hf0 hf1 (by omega) (by omega)).mono ?_;rintro e w' ⟨v,rfl,k1,k2⟩;exact ⟨v,rfl,⟨gl,gx,m,ws,B,C,sure,P,k1,rfl,h3,h4,h5⟩,k2⟩
theorem SK.flush (h:SK wb w g gs rate sd c s u n bs K):Calls Tryz.prog 45 #[.pointer (some ⟨gs,0,none⟩)] w fun e w'=>e= .returned (.int .i64 0)∧SK wb w' g gs rate sd c s u n bs K∧Stay K w w':=by
 obtain ⟨gl,gx,m,ws,B,C,sure,P,h1,h2⟩:=h;refine (z7v h1).mono ?_;rintro e w' ⟨rfl,k1,k2⟩;exact ⟨rfl,⟨gl,gx,m,ws,B,C,_,P,k1,h2⟩,k2⟩
theorem SK.append (h:SK wb w g gs rate sd c s u n bs K) (hn:n≤86) (str:List UInt8) (hs:str.length≤4611686018427387903) (ex:Int) {ao:Option Addr} {k cap:Nat} {L:List Ev} (hx: ∀W,Ext wb W→Stay K w W→Evs W ao k cap L) (hL:q1C L)
  (hwe: ∀e∈L,e.we<18446744073709551616) {z:Int} (hz:q8A bs str ex L=z):
  Calls Tryz.prog 12 #[.pointer (some ⟨gs,0,none⟩),.string ⟨str.toArray⟩,.int .i64 ex,.slice ao k cap] w fun e w'=>
   ∃ x y bs',e= .returned (.tuple #[.int .i64 x,.int .i64 y])∧SK wb w' g gs rate sd c s (u+2024) (n+1) bs' K∧Stay K w w'∧
    ((z≠0∧x=0∧y=z∧bs'=bs)∨(z=0∧x=0∧y=60∧bs'=bs∧c-(u:Int)-2024<6000)∨(z=0∧x=((q0T bs str).length:Int)∧y=0∧bs'=bs++[⟨str,(q0T bs str).length,L⟩])):=by
 obtain ⟨gl,gx,m,ws,B,C,sure,P,h1,rfl,h3,h4,h5⟩:=h;obtain ⟨b1,b2,b3,b4⟩:=h1.bounds rfl h4;have b5:=q3q (q1f P) str;refine (z5V h1 str hs ex hx hL hwe (by omega) (by omega) (by omega)).mono ?_;rw[hz];rintro e w' ⟨⟨k0,rfl,k1⟩|⟨rfl,rfl,k1,k3⟩|⟨rfl,k3,pos,ws',B',C',sure',rfl,k1⟩,k2⟩
 ·exact ⟨_,_,_,rfl,⟨gl,gx,m,ws,B,C,sure,P,k1.mono (by omega) (by omega),rfl,by omega,by omega,h5⟩,k2,.inl ⟨k0,rfl,rfl,rfl⟩⟩
 ·exact ⟨_,_,_,rfl,⟨gl,gx,m,ws,B,C,sure,P,k1.mono (by omega) (by omega),rfl,by omega,by omega,h5⟩,k2,.inr (.inl ⟨rfl,rfl,rfl,rfl,by omega⟩)⟩
 ·exact ⟨_,_,_,rfl,⟨gl,gx,m,ws',B',C',sure',_,k1.mono (by omega) (by omega),rfl,by omega,by rw[q4K,List.length_append,List.length_singleton];omega,h5⟩,k2,.inr (.inr ⟨rfl,rfl,rfl,q4K _ _ _⟩)⟩
theorem SQ.open (h:SQ wb w g sd c s u n bs K) (hn:n≤200) (rate:Nat):Calls Tryz.prog 32 #[.pointer (some ⟨g,0,none⟩),.int .u64 sd,.float .f64 rate] w fun e w'=>
  ∃gs,e= .returned (.tuple #[.pointer (some ⟨gs,0,none⟩),.int .i64 0])∧SK wb w' g gs rate sd c s u n bs K∧Stay K w w':=by
 obtain ⟨m,B,C,P,h1,h2,h3,rfl,h4,h5,h6,h7⟩:=h;have h8:=q9c h2.ok;refine (y0N h1 h2 h6 h7 (by omega) (by omega) h3 rate).mono ?_;rintro e w' ⟨gs,gl,gx,m',ws,B',sure,rfl,k1,k2,k3⟩;exact ⟨gs,rfl,⟨gl,gx,m',ws,B',C,sure,P,k1,rfl,by omega,h5,h6,h7⟩,k3⟩
theorem DkK.sq (h:DkK noO wb w g c s [] K) (sd:Int) (hs0:0≤sd) (hs1:sd<18446744073709551616):SQ wb w g sd c s 0 0 [] K:=by
 obtain ⟨F,σ,h1,h2⟩:=h;have hpl:Pl σ c s []:=by have:=h2.pl;simpa [q2L,noO,q2N,q5n,q3H,q3y] using this
 have hv:q0g 0 0 []=true:=by decide
 refine ⟨⟨0,0,sd,[]⟩,[],[],[],⟨⟨⟨0,0,sd,[]⟩,0,[],fun _=>none,0⟩,σ,fun _=>none,F,rfl,rfl,h1,⟨⟨⟨[],hpl,List.Pairwise.nil,fun _=>rfl,Nat.zero_le _,Nat.zero_le _⟩,⟨hv,hs0,hs1⟩,(fun n hn=>by cases hn),(fun n e he=>by cases he),(fun nm hn=>absurd rfl hn),okM.nil,okM.nil,fun x=>?_⟩,.inr ⟨rfl,rfl,rfl,rfl⟩,fun k _=>by simp⟩,okC.nil⟩,
  ⟨rfl,rfl,okBs.nil,(fun x hx=>by cases hx),(fun x hx=>by cases hx),by show (0:Int)≤q4v [];rw[z2l];decide⟩,List.nodup_nil,rfl,Int.le_refl _,Nat.le_refl _,hs0,hs1⟩
 constructor
 ·intro hx;cases hx
 ·rintro (hx|⟨n,e,he,_⟩)
  ·cases hx
  ·cases he
end
end
section
open Go.RowKit
def q2x (bs:List Bt) (str:List UInt8) (a:Int) (L:List Ev):Bool:=!L.isEmpty&&q0v ((z6j bs str (a+1) (L.length:Int)).map To.e) L
def wrN (bs:List Bt) (str:List UInt8) (a:Int) (L:List Ev):Int×Bool×Int:=
 if q8A bs str a L=0 then (a+1,false,0) else if q8A bs str a L=80∧q2x bs str a L=true then (a+1,true,0) else (0,false,q8A bs str a L)
def wrB (bs:List Bt) (str:List UInt8) (a:Int) (L:List Ev):List Bt:=
 if q8A bs str a L=0 then bs++[⟨str,(q0T bs str).length,L⟩] else bs
def wrA (bs:List Bt) (str:List UInt8) (a:Int) (L:List Ev):Int:=if (wrN bs str a L).2.2=0 then a+(L.length:Int) else a
def q5f (bs:List Bt) (str:List UInt8) (a:Int):Int:=
 if (q3c bs str).2≠0 then (q3c bs str).2 else if a< -1 then 2 else if (q3c bs str).1<a then 80 else 0
end
section
open Go.RowKit
def z6k (b:Nat):Int:=if b<9223372036854775808 then (b:Int)+9223372036854775808 else 18446744073709551615-(b:Int)
theorem z2w (b:Nat) (hb:b<18446744073709551616) (w:World):Calls Tryz.prog 135 #[.float .f64 b] w fun e w'=>e= .returned (.int .u64 (z6k b))∧w=w':=by
 have hfb:=q3e;by_cases h:b<9223372036854775808
 ·have hd:decide ((9223372036854775808:Int)≤(b:Int))=false:=decide_eq_false (by omega)
  have q:IntKind.u64.wrap ((b:Int)+9223372036854775808)=(b:Int)+9223372036854775808:=by rw[IntKind.wrap_u64];omega
  have HK:Hid (z6k b=(b:Int)+9223372036854775808):=η44 (if_pos h);clear h;go_enter Tryz.func135,Tryz.ntmps135;go_wp2_with fail;go_ret;exact ⟨by rw[HK.out];rfl,rfl⟩
 ·have hd:decide ((9223372036854775808:Int)≤(b:Int))=true:=decide_eq_true (by omega)
  have q:IntKind.u64.wrap (18446744073709551615-(b:Int))=18446744073709551615-(b:Int):=by rw[IntKind.wrap_u64];omega
  have HK:Hid (z6k b=18446744073709551615-(b:Int)):=η44 (if_neg h);clear h;go_enter Tryz.func135,Tryz.ntmps135;go_wp2_with fail;go_ret;exact ⟨by rw[HK.out];rfl,rfl⟩
theorem z8H {a b:Nat} (ha:a<18446744073709551616) (hb:b<18446744073709551616) (h:z6k a=z6k b):a=b:=by
 unfold z6k at h
 split at h<;>split at h<;>omega
theorem z5N (a b:Nat) (ha:a<18446744073709551616) (hb:b<18446744073709551616) (w:World):Calls Tryz.prog 89 #[.float .f64 a,.float .f64 b] w fun e w'=>e= .returned (.bool (decide (a=b)))∧w=w':=by
 have HX:=η44 (z2w a ha);have HY:=η44 (z2w b hb);have hz:(z6k a==z6k b)=decide (a=b):=by
  by_cases h:a=b
  ·rw[h];simp
  ·rw[decide_eq_false h];exact beq_eq_false_iff_ne.2 fun e=>h (z8H ha hb e)
 obtain ⟨z,hzz⟩: ∃z,decide (a=b)=z:=⟨_,rfl⟩
 rw[hzz] at hz⊢;clear hzz ha hb;generalize z6k a=x at*;generalize z6k b=y at*;go_enter Tryz.func89,Tryz.ntmps89;go_wp2_with fail;refine (HX.out _).mono ?_;rintro e w1 ⟨rfl,rfl⟩;go_wp2_with fail;refine (HY.out _).mono ?_;rintro e w1 ⟨rfl,rfl⟩;go_wp2_with fail;go_ret;exact ⟨by rw[←hz];rfl,rfl⟩
theorem z1R (a b:Ev) (ha:a.we<18446744073709551616) (hb:b.we<18446744073709551616) (w:World):Calls Tryz.prog 46 #[.agg #[.string ⟨a.ty.toArray⟩,.string ⟨a.da.toArray⟩,.float .f64 a.we],.agg #[.string ⟨b.ty.toArray⟩,.string ⟨b.da.toArray⟩,.float .f64 b.we]] w fun r w'=>r= .returned (.bool (q3O a b))∧Ext w w':=by
 obtain ⟨ty,da,we⟩:=a;obtain ⟨ty',da',we'⟩:=b;have hx1:=q0B w (.cells #[.string ⟨ty.toArray⟩,.string ⟨da.toArray⟩,.float .f64 we] 85);have hx2:=q0B (w.alloc (.cells #[.string ⟨ty.toArray⟩,.string ⟨da.toArray⟩,.float .f64 we] 85)) (.cells #[.string ⟨ty'.toArray⟩,.string ⟨da'.toArray⟩,.float .f64 we'] 85);have HX:=η44 (hx1.trans hx2);have hb1:=(Blk.new w 85 #[.string ⟨ty.toArray⟩,.string ⟨da.toArray⟩,.float .f64 we]).ext hx2;have hb2:=Blk.new (w.alloc (.cells #[.string ⟨ty.toArray⟩,.string ⟨da.toArray⟩,.float .f64 we] 85)) 85 #[.string ⟨ty'.toArray⟩,.string ⟨da'.toArray⟩,.float .f64 we'];rw[World.size_alloc] at hb2;have k0:=hb1.cell 0;have k1:=hb1.cell 1;have k2:=hb1.cell 2;have d0:=hb2.cell 0;have d1:=hb2.cell 1;have d2:=hb2.cell 2;obtain ⟨z1,hz1⟩: ∃z1,(ty==ty')=z1:=⟨_,rfl⟩
 obtain ⟨z2,hz2⟩: ∃z2,(da==da')=z2:=⟨_,rfl⟩
 obtain ⟨z3,hz3⟩: ∃z3,decide (we=we')=z3:=⟨_,rfl⟩
 have hs:q3O ⟨ty,da,we⟩ ⟨ty',da',we'⟩=(z1&&z2&&z3):=by
  unfold q3O;rw[←hz1,←hz2,←hz3]
  congr 1
  congr 1
  ·by_cases h:ty=ty'<;>simp[h]
  ·by_cases h:da=da'<;>simp[h]
 rw[hs];have HS:=η44 (fun W=>z5N we we' ha hb W);rw[hz3] at HS;clear hx1 hx2 hb1 hb2 hs hz3;go_enter Tryz.func46,Tryz.ntmps46
 cases z1 with
 | false=>
  go_wp2_with fail;go_ret;exact ⟨rfl,HX.out⟩
 | true=>
  cases z2 with
  | false=>
   go_wp2_with fail;go_ret;exact ⟨rfl,HX.out⟩
  | true=>
   go_wp2_with fail;refine (HS.out _).mono ?_;rintro e w1 ⟨rfl,rfl⟩;go_wp2_with fail;go_ret;exact ⟨by simp,HX.out⟩
theorem q6R (t d:List UInt8) (k:FloatKind) (b:Nat) (w:World) (_ht:t.length≤4611686018427387903) (_hd:d.length≤4611686018427387903):
  Calls Tryz.prog 81 #[.agg #[.string ⟨t.toArray⟩,.string ⟨d.toArray⟩,.float k b]] w fun e w'=>e= .returned (.int .i64 (q0W t d))∧Ext w w':=by
 have hbk:=Blk.new w 85 #[.string ⟨t.toArray⟩,.string ⟨d.toArray⟩,.float k b];have HX:=η44 (q0B w (.cells #[.string ⟨t.toArray⟩,.string ⟨d.toArray⟩,.float k b] 85));have c0:(w.alloc (.cells #[.string ⟨t.toArray⟩,.string ⟨d.toArray⟩,.float k b] 85)).cell? ⟨w.heap.size,0,none⟩=some (.string ⟨t.toArray⟩):=hbk.cell 0;have c1:(w.alloc (.cells #[.string ⟨t.toArray⟩,.string ⟨d.toArray⟩,.float k b] 85)).cell? ⟨w.heap.size,1,none⟩=some (.string ⟨d.toArray⟩):=hbk.cell 1;have h3:(((t.length:Int)==0)=true∧q0W t d=2)∨(((t.length:Int)==0)=false∧((decide ((16:Int)<(t.length:Int))=true∧q0W t d=3)∨(decide ((16:Int)<(t.length:Int))=false∧((decide ((200:Int)<(d.length:Int))=true∧q0W t d=3)∨(decide ((200:Int)<(d.length:Int))=false∧q0W t d=0))))):=by
  unfold q0W;by_cases h0:t=[]
  ·exact .inl ⟨by rw[h0];rfl,by rw[if_pos h0]⟩
  ·have hl:0<t.length:=List.length_pos_iff.2 h0
   refine .inr ⟨by simp;omega,?_⟩;rw[if_neg h0];by_cases h1:16<t.length
   ·exact .inl ⟨decide_eq_true (by omega),by rw[if_pos h1]⟩
   ·rw[if_neg h1]
    refine .inr ⟨decide_eq_false (by omega),?_⟩;by_cases h2:200<d.length
    ·exact .inl ⟨decide_eq_true (by omega),by rw[if_pos h2]⟩
    ·exact .inr ⟨decide_eq_false (by omega),by rw[if_neg h2]⟩
 clear hbk;rcases h3 with ⟨h0,he⟩|⟨h0,⟨h1,he⟩|⟨h1,⟨h2,he⟩|⟨h2,he⟩⟩⟩
 all_goals
  rw[he];clear he;go_enter Tryz.func81,Tryz.ntmps81;go_wp2_with fail;go_ret;exact ⟨rfl,HX.out⟩
theorem z1O (e:Ev) (w:World) (he:z6V e):Calls Tryz.prog 84 #[evV e] w fun r w'=>r= .returned (.string ⟨(evB e).toArray⟩)∧Ext w w':=by
 obtain ⟨t,d,b⟩:=e;obtain ⟨h1,h2⟩:=he;obtain ⟨_,h3,h4⟩:=q1k h1;simp only at h1 h2 h3 h4;show Calls _ _ #[.agg #[.string ⟨t.toArray⟩,.string ⟨d.toArray⟩,.float .f64 b]] _ fun r w'=>r= .returned (.string ⟨(q1e t++(q1e d++be 8 b)).toArray⟩)∧Ext w w'
 have HC:=η44 (fun W=>q6R t d .f64 b W (by omega) (by omega));rw[h1] at HC;have HT1:=η44 (fun W=>q7e t W (by omega));have HT2:=η44 (fun W=>q7e d W (by omega));have HP:=η44 (fun W=>z3E (b:Int) 8 8 W rfl (by omega) (by omega) (by omega) (by omega));have l1:(q1e t).length≤1000:=by unfold q1e;split<;>simp[q0H];omega
 have l2:(q1e d).length≤1000:=by unfold q1e;split<;>simp[q0H];omega
 have l3:=q0H 8 ((b:Int)).toNat;obtain ⟨R,hR⟩: ∃R,be 8 ((b:Int)).toNat=R:=⟨_,rfl⟩
 rw[hR] at HP l3;rw[Int.toNat_natCast] at hR;rw[hR];have l3':R.length≤8:=by omega
 have HX:=η44 (q0B w (.cells #[.string ⟨t.toArray⟩,.string ⟨d.toArray⟩,.float .f64 b] 85));have hbk:=Blk.new w 85 #[.string ⟨t.toArray⟩,.string ⟨d.toArray⟩,.float .f64 b];have k0:(w.alloc (.cells #[.string ⟨t.toArray⟩,.string ⟨d.toArray⟩,.float .f64 b] 85)).cell? ⟨w.heap.size,0,none⟩=some (.string ⟨t.toArray⟩):=hbk.cell 0;have k1:(w.alloc (.cells #[.string ⟨t.toArray⟩,.string ⟨d.toArray⟩,.float .f64 b] 85)).cell? ⟨w.heap.size,1,none⟩=some (.string ⟨d.toArray⟩):=hbk.cell 1;have k2:(w.alloc (.cells #[.string ⟨t.toArray⟩,.string ⟨d.toArray⟩,.float .f64 b] 85)).cell? ⟨w.heap.size,2,none⟩=some (.float .f64 b):=hbk.cell 2;have HB0:=η44 hbk;generalize q1e t=A at*;generalize q1e d=D at*;clear hbk h1 h3 h4 hR l3;go_enter Tryz.func84,Tryz.ntmps84;go_wp2_with fail;generalize w.alloc (.cells #[.string ⟨t.toArray⟩,.string ⟨d.toArray⟩,.float .f64 b] 85)=w1 at*;generalize w.heap.size=q at*;refine (HC.out _).mono ?_
 rintro e w2 ⟨rfl,hx⟩;have HX2:=η44 (HX.out.trans hx);have hb2:=HB0.out.ext hx;have c0:w2.cell? ⟨q,0,none⟩=some (.string ⟨t.toArray⟩):=hb2.cell 0;have c1:w2.cell? ⟨q,1,none⟩=some (.string ⟨d.toArray⟩):=hb2.cell 1;have c2:w2.cell? ⟨q,2,none⟩=some (.float .f64 b):=hb2.cell 2;have u0:=q0D c0;have u1:=q0D c1;have u2:=q0D c2;have q1:¬(9223372036854775807<A.length+D.length):=by omega
 have q2:¬(9223372036854775807<(A++D).length+R.length):=by rw[List.length_append];omega
 have q3:¬(9223372036854775807<A.length+D.length+R.length):=by omega
 have hfb:=q3e b;clear hx hb2 k0 k1 k2;go_wp2_with fail;refine q0E (by kernel_rfl) (by kernel_rfl) ?_
 repeat (go_big_quiet_step (fail))
 go_big_quiet_step (exact Calls.quiet_ext (HT1.out _))
 repeat (go_big_quiet_step (fail))
 go_big_quiet_step (exact Calls.quiet_ext (HT2.out _))
 repeat (go_big_quiet_step (fail))
 go_big_quiet_step (exact Calls.quiet_ext (HP.out _))
 repeat (go_big_quiet_step (fail))
 refine wpQuiet_nil ?_;intro w3 hw;have HX3:=η44 (HX2.out.trans hw);clear hw;go_wp2_with fail;go_ret;exact ⟨by rw[q2K,q2K];simp,HX3.out⟩
end
section
open Go.RowKit
theorem q7h {ao:Option Addr} {n cap:Nat} {L:List Ev} (st:List UInt8) (fi:Int) (w:World) (hx:Evs w ao n cap L) (hst:st.length≤4611686018427387903) (hL:q1C L):
  Calls Tryz.prog 40 #[.agg #[.string ⟨st.toArray⟩,.int .i64 fi,.slice ao n cap]] w fun e w'=>e= .returned (.int .i64 (q0N st fi L))∧Ext w w':=by
 have b1:=hx.fits;have b2:=hx.bound;have hlen:=hx.len;have HX:=η44 (q0B w (.cells #[.string ⟨st.toArray⟩,.int .i64 fi,.slice ao n cap] 96));have HBk:=η44 (Blk.new w 96 #[.string ⟨st.toArray⟩,.int .i64 fi,.slice ao n cap]);have c0:=HBk.out.cell 0;have c1:=HBk.out.cell 1;have c2:=HBk.out.cell 2;have HE:=η44 hx;have HL:=η44 hL;clear hx hL;by_cases h1:st=[]
 ·have HN:Hid (q0N st fi L=2):=η44 (by unfold q0N;rw[if_pos (.inl h1)])
  have hd:((st.length:Int)==0)=true:=by rw[h1];rfl
  clear h1;go_enter Tryz.func40,Tryz.ntmps40;go_wp2_with fail;go_ret;exact ⟨by rw[HN.out];rfl,HX.out⟩
 have h1b:((st.length:Int)==0)=false:=by have:=List.length_pos_iff.2 h1;simp;omega
 by_cases h2:n=0
 ·have HN:Hid (q0N st fi L=2):=η44 (by unfold q0N;rw[if_pos (.inr (List.eq_nil_of_length_eq_zero (by omega)))])
  have hd:((n:Int)==0)=true:=by rw[h2];rfl
  clear h1 h2 hlen;go_enter Tryz.func40,Tryz.ntmps40;go_wp2_with fail;go_ret;exact ⟨by rw[HN.out];rfl,HX.out⟩
 have h2b:((n:Int)==0)=false:=by simpa using h2
 have hLn:L≠[]:=fun e=>h2 (by rw[←hlen,e];rfl)
 have hno:¬(st=[]∨L=[]):=fun h=>h.elim h1 hLn
 by_cases h3:32<st.length
 ·have HN:Hid (q0N st fi L=3):=η44 (by unfold q0N;rw[if_neg hno,if_pos (.inl h3)])
  have hd:decide ((32:Int)<(st.length:Int))=true:=decide_eq_true (by omega);clear h1 h2 hLn hno hlen h3;go_enter Tryz.func40,Tryz.ntmps40;go_wp2_with fail;go_ret;exact ⟨by rw[HN.out];rfl,HX.out⟩
 have hd3:decide ((32:Int)<(st.length:Int))=false:=decide_eq_false (by omega);by_cases h4:8<n
 ·have HN:Hid (q0N st fi L=3):=η44 (by unfold q0N;rw[if_neg hno,if_pos (.inr (by omega))])
  have hd:decide ((8:Int)<(n:Int))=true:=decide_eq_true (by omega);clear h1 h2 hLn hno hlen h4;go_enter Tryz.func40,Tryz.ntmps40;go_wp2_with fail;go_ret;exact ⟨by rw[HN.out];rfl,HX.out⟩
 have hno2:¬(32<st.length∨8<L.length):=by omega
 have hd4:decide ((8:Int)<(n:Int))=false:=decide_eq_false (by omega);have q0:IntKind.i64.wrap (1073741824-(n:Int))=1073741824-(n:Int):=by rw[IntKind.wrap_i64];omega
 by_cases h5:fi<0∨1073741824-(n:Int)<fi
 ·have HN:Hid (q0N st fi L=2):=η44 (by unfold q0N;rw[if_neg hno,if_neg hno2,if_pos (by rw[hlen];exact h5)])
  have hd5:decide (fi<0)=true∨(decide (fi<0)=false∧decide (1073741824-(n:Int)<fi)=true):=by
   by_cases h:fi<0
   ·exact .inl (decide_eq_true h)
   ·exact .inr ⟨decide_eq_false h,decide_eq_true (by omega)⟩
  clear h1 h2 hLn hno hno2 hlen h5 h3 h4;rcases hd5 with hd5|⟨hd5,hd6⟩
  all_goals
   go_enter Tryz.func40,Tryz.ntmps40;go_wp2_with fail;go_ret;exact ⟨by rw[HN.out];rfl,HX.out⟩
 have hd5:decide (fi<0)=false:=decide_eq_false (by omega);have hd6:decide (1073741824-(n:Int)<fi)=false:=decide_eq_false (by omega);have HN:Hid (q0N st fi L=q5z L):=η44 (by unfold q0N;rw[if_neg hno,if_neg hno2,if_neg (by rw[hlen];exact h5)]);have HLe:=η44 hlen;clear h1 h2 hLn hno hno2 hlen h5 h3;go_enter Tryz.func40,Tryz.ntmps40;go_wp2_with fail
 go_loopw [3] (fun i W=> ∃k:Nat,k≤n∧i= .int .i64 (k:Int)∧q5z (L.take k)=0∧Ext (w.alloc (.cells #[.string ⟨st.toArray⟩,.int .i64 fi,.slice ao n cap] 96)) W) (fun i _=>n-(intOf i).toNat)
 case atStart=>exact ⟨0,Nat.zero_le _,rfl,rfl,Ext.refl _⟩
 case round=>
  obtain ⟨k,hk,rfl,h0,hb⟩:=hrel;have HBx:=η44 hb;have hbk:=HBk.out.ext hb;have d2:=hbk.cell 2;by_cases hlt:k<n
  ·have hd7:decide ((k:Int)<(n:Int))=true:=decide_eq_true (by omega)
   have hki:(k:Int)<(n:Int):=by omega
   obtain ⟨b,off,rfl,e0,e1,e2⟩:=(HE.out.ext (HX.out.trans hb)).at hlt;have hkL:k<L.length:=by rw[HLe.out];exact hlt
   have hT:L.take (k+1)=L.take k++[L.getD k ev0]:=by
    rw[List.take_succ_eq_append_getElem hkL];simp[List.getD,List.getElem?_eq_getElem hkL]
   have hS:=q7V (L.take k) (L.getD k ev0) h0;rw[←hT] at hS;have HS:=η44 hS;have HSk:=η44 (q7J L k hkL h0);have hmem:L.getD k ev0∈L:=by rw[List.getD_eq_getElem?_getD,List.getElem?_eq_getElem hkL];exact List.getElem_mem hkL
   obtain ⟨m1,m2⟩:=HL.out _ hmem;have q1:IntKind.i64.wrap ((k:Int)+1)=(k:Int)+1:=by rw[IntKind.wrap_i64];omega
   generalize L.getD k ev0=y at*;obtain ⟨y1,y2,y3⟩:=y;have HCk:=η44 (fun W=>q6R y1 y2 .f64 y3 W m1 m2);simp only at e0 e1 e2;clear hT hkL h0 hS hmem m1 m2 hb hbk;go_wp2_with fail;refine (HCk.out _).mono ?_;rintro e w1 ⟨rfl,hx⟩;have HX2:=η44 (HBx.out.trans hx);clear hx;by_cases hc:q0W y1 y2=0
   ·have HS':Hid (q5z (L.take (k+1))=0):=η44 (by rw[HS.out];exact hc)
    rw[hc];go_wp2_with fail
    go_roundw
    case rel=>exact ⟨k+1,by omega,by go_num,HS'.out,HX2.out⟩
    case measure=>simp[intOf];omega
   ·have HN2:Hid (q5z L=q0W y1 y2):=η44 (by rw[HSk.out,if_neg hc])
    have hcn:(q0W y1 y2 !=0)=true:=by simpa using hc
    clear hc;go_wp2_with fail
    (try rw[Exit.noGoto_ret])
    go_ret;exact ⟨by rw[HN.out,HN2.out];rfl,HX.out.trans HX2.out⟩
  ·obtain rfl:k=n:=by omega
   have hd7:decide ((k:Int)<(k:Int))=false:=decide_eq_false (by omega);have HN2:Hid (q5z L=0):=η44 (by rw[←HLe.out,List.take_length] at h0;exact h0);clear h0 hb hbk;go_wp2_with fail;go_ret;exact ⟨by rw[HN.out,HN2.out];rfl,HX.out.trans HBx.out⟩
theorem z5r {e:Ev} (h:z6V e):(evB e).length≤300:=by
 obtain ⟨_,h3,h4⟩:=q1k h.1;unfold evB;rw[q1V (by omega),q1V (by omega)];simp[q0H];omega
end
section
open Go.RowKit
theorem DkK.rebase {E:Oth} {wa wb w:World} {g:Nat} {c s:Int} {C:Cks} {K:Nat→Prop} (h:DkK E wb w g c s C K) (k:Ext wa wb):DkK E wa w g c s C K:=by
 obtain ⟨F,σ,h1,h2⟩:=h;have hs:=k.size;exact ⟨F,σ,⟨h1.d,fun i hi=>by have:=h1.bF i hi;omega,k.trans h1.ext,h1.k⟩,h2⟩
theorem DkK.base {E:Oth} {wb w:World} {g:Nat} {c s:Int} {C:Cks} {K:Nat→Prop} (h:DkK E wb w g c s C K):Ext wb w:=by
 obtain ⟨F,σ,h1,h2⟩:=h;exact h1.ext
theorem Blk.rd {w:World} {b:Nat} {t:TypeId} {cs:Array Value} (h:Blk w b t cs):Rd w (some ⟨b,0,none⟩) cs.toList:=fun j u hj=>⟨b,0,rfl,by rw[Nat.zero_add,h.cell j];simpa using hj⟩
theorem Blk.evs {w:World} {b:Nat} {t:TypeId} {L:List Ev} (h:Blk w b t (q4q L).toArray) {k:Nat} (hk:k≤L.length) (hl:L.length≤1000000):Evs w (some ⟨b,0,none⟩) k L.length (L.take k):=by
 refine ⟨by rw[List.length_take];omega,hk,by omega,(fun e=>by cases e),?_⟩;have h1:=h.rd.take (k*3);have e:(q4q L).take (k*3)=q4q (L.take k):=by
  conv=>lhs;rw[←List.take_append_drop k L,q4p]
  exact List.take_left' (by rw[q6m,List.length_take];omega)
 rw[←e]
 simpa using h1
theorem q5t {w:World} {B:Nat} {e:TypeId} {ao:Option Addr} {n cp:Nat} {L:List To} (h:w.ownsRow B e 5 (.slice ao n cp) L.length (q5E L)):Tos w ao n cp L∧n=L.length:=by
 obtain ⟨a,c,e1,h2⟩:=Tos.of_own (Own.of_row h)
 cases e1;exact ⟨h2,rfl⟩
abbrev evA :Ev:=⟨[97],[],0⟩
abbrev z3y :Ev:=⟨[98],[],0⟩
abbrev st1 :Bt:=⟨[115],0,[evA,z3y]⟩
theorem q5J {L:List Ev} (h: ∀e∈L,e.ty.length≤300∧e.da.length≤300):q1C L:=fun e he=>by have:=h e he;omega
end
section
open Go.RowKit
section
variable {wb w W W1 W2:World} {g gs rate u n:Nat} {sd c s:Int} {bs:List Bt} {K K':Nat→Prop}
theorem SK.row0 {m m1 sz base:Nat} {vq v2:Value} {ys ys1:List Value} {ti:TypeId} (h:SK wb W g gs rate sd c s u n bs (fun i=>K i∨vq.ownBlock=some i)) (hb:wb.heap.size≤base) (hq:W.ownsRow base ti sz vq m ys)
  (h2:W2.ownsRow base ti sz v2 m1 ys1) (g2:W.grownBy W2 vq.ownBlock) (a2:v2.ownBlock=vq.ownBlock∨v2.ownBlock=some W.heap.size) (hd: ∀i,K i→vq.ownBlock≠some i):
  SK wb W2 g gs rate sd c s u n bs (fun i=>K i∨v2.ownBlock=some i)∧Stay K W W2∧ ∀i,K i→v2.ownBlock≠some i:=by
 have s2:=g2.size;have hqb: ∀i,vq.ownBlock=some i→base≤i∧i<W.heap.size:=q0V hq;have e2: ∀i,i<W.heap.size→vq.ownBlock≠some i→W2.heap[i]? =W.heap[i]? :=fun i hi hn=>g2.block i hi fun e=>hn e.symm
 have hx0:=h.base;have hx2:Ext wb W2:=Below.grown hx0 g2 hx0.size fun k hk=>by have:=(hqb k hk).1;omega
 refine ⟨h.sideM s2 hx2 (fun i hi hn=>e2 i hi fun e=>hn (.inr e)) fun i hi=>?_,fun i hi=>e2 i (h.klt i (.inl hi)) (hd i hi),fun i hi e=>?_⟩
 ·rcases hi with hi|hi
  ·exact .inl (.inl hi)
  ·rcases a2 with k|k
   ·exact .inl (.inr (k.symm.trans hi))
   ·have hlt:=(q0V h2 i hi).2
    rw[k] at hi
    cases hi
    right;omega
 ·rcases a2 with k|k
  ·exact hd i hi (k.symm.trans e)
  ·rw[k] at e
   cases e;have:=h.klt _ (.inl hi);omega
theorem SK.row1 {m m1 sz base:Nat} {vq v2:Value} {ys ys1:List Value} {l2:Obj} {ti:TypeId} (h:SK wb W g gs rate sd c s u n bs (fun i=>K i∨vq.ownBlock=some i)) (hb:wb.heap.size≤base) (hq:W.ownsRow base ti sz vq m ys)
  (h2:W2.ownsRow base ti sz v2 m1 ys1) (g2:(W.alloc l2).grownBy W2 vq.ownBlock) (a2:v2.ownBlock=vq.ownBlock∨v2.ownBlock=some (W.alloc l2).heap.size) (hd: ∀i,K i→vq.ownBlock≠some i):
  SK wb W2 g gs rate sd c s u n bs (fun i=>K i∨v2.ownBlock=some i)∧Stay K W W2∧ ∀i,K i→v2.ownBlock≠some i:=by
 obtain ⟨h1,h3,h4⟩:=(h.grow (q0B W l2)).row0 hb (q0J hq (q0B W l2)) h2 g2 a2 hd;exact ⟨h1,fun i hi=>(h3 i hi).trans ((q0B W l2).block i (h.klt i (.inl hi))),h4⟩
end
theorem z6i {α:Type} (p:α→Bool) (A:List α) (d:α) {k:Nat} (h:k<A.length):(A.take (k+1)).filter p=(A.take k).filter p++if p (A.getD k d)=true then [A.getD k d] else []:=by
 rw[List.take_succ_eq_append_getElem h,List.filter_append,List.getD_eq_getElem?_getD,List.getElem?_eq_getElem h];simp only[Option.getD_some];by_cases hp:p A[k]=true
 ·rw[if_pos hp,List.filter_cons_of_pos hp,List.filter_nil]
 ·rw[if_neg hp,List.filter_cons_of_neg hp,List.filter_nil]
end
section
open Go.RowKit
structure MoI (W:World) (mb base:Nat) (vL vM:Value) (L:List To) (ms:List Value):Prop where
 blk: ∃su:Int,Blk W mb 38 #[vL,vM,.int .i64 su]
 rowL:W.ownsRow base 87 5 vL L.length (q5E L)
 rowM:W.ownsRow base 3 1 vM ms.length ms
def MoB (mb:Nat) (vL vM:Value) (i:Nat):Prop:=i=mb∨vL.ownBlock=some i∨vM.ownBlock=some i
theorem MoI.same {W W':World} {mb base:Nat} {vL vM:Value} {L:List To} {ms:List Value} (h:MoI W mb base vL vM L ms) (k: ∀i,MoB mb vL vM i→W'.heap[i]? =W.heap[i]?):MoI W' mb base vL vM L ms:=by
 obtain ⟨su,hb⟩:=h.blk;exact ⟨⟨su,hb.same (k _ (.inl rfl))⟩,q0a h.rowL fun i hi=>k i (.inr (.inl hi)),q0a h.rowM fun i hi=>k i (.inr (.inr hi))⟩
theorem MoI.lt {W:World} {mb base:Nat} {vL vM:Value} {L:List To} {ms:List Value} (h:MoI W mb base vL vM L ms) {i:Nat} (hi:MoB mb vL vM i):i<W.heap.size:=by
 obtain ⟨su,hb⟩:=h.blk;rcases hi with rfl|hi|hi
 ·exact hb.lt
 ·exact (q0V h.rowL i hi).2
 ·exact (q0V h.rowM i hi).2
theorem MoI.ext {W W':World} {mb base:Nat} {vL vM:Value} {L:List To} {ms:List Value} (h:MoI W mb base vL vM L ms) (k:Ext W W'):MoI W' mb base vL vM L ms:=h.same fun i hi=>k.block i (h.lt hi)
theorem z7a {W W2:World} {w0:World} {sz n:Nat} {vq:Value} {xs:List Value} {ti:TypeId} {l2:Obj} (hb:Ext w0 W) (hq:W.ownsRow w0.heap.size ti sz vq n xs)
  (g2:(W.alloc l2).grownBy W2 vq.ownBlock):Ext w0 W2:=
 Below.grown (hb.trans (q0B W l2)) g2 (Nat.le_trans hb.size (q0B W l2).size) fun k hk=>(q0V hq k hk).1
theorem q6n {w:World} {mb base:Nat} {vL vM:Value} {L:List To} {ms:List Value} (h:MoI w mb base vL vM L ms) (s:List UInt8) (hl:L.length≤100000):
  Calls Tryz.prog 41 #[.pointer (some ⟨mb,0,none⟩),.string ⟨s.toArray⟩] w fun e w'=> ∃v,e= .returned v∧w'.ownsRow w.heap.size 87 5 v (L.filter fun t=>decide (t.s=s)).length (q5E (L.filter fun t=>decide (t.s=s)))∧Ext w w':=by
 obtain ⟨la,lc,rfl⟩:=q0G h.rowL;have HM:=η44 h;obtain ⟨n,hn⟩: ∃n,L.length=n:=⟨_,rfl⟩
 have ht:=(q5t h.rowL).1;rw[hn] at ht hl HM;have HT:=η44 ht;have b1:=ht.fits;have b2:=ht.bound;obtain ⟨su,hblk⟩:=h.blk;rw[hn] at hblk;have HBk:=η44 hblk;have HN:=η44 hn;clear h ht hblk hn;go_enter Tryz.func41,Tryz.ntmps41;go_wp2_with fail
 go_loopw [5,6] (fun ov oi W=> ∃(k:Nat) (v:Value) (M:List To),ov=v∧oi= .int .i64 (k:Int)∧k≤n∧Hid ((L.take k).filter (fun t=>decide (t.s=s))=M)∧W.ownsRow w.heap.size 87 5 v M.length (q5E M)∧Ext w W) (fun _ i _=>n-(intOf i).toNat)
 case atStart=>exact ⟨0,_,[],rfl,rfl,Nat.zero_le _,η44 (by simp),⟨rfl,.inl ⟨rfl,rfl⟩⟩,Ext.refl _⟩
 case round=>
  obtain ⟨k,v,M,rfl,rfl,hk,HMm,hrow,hb⟩:=hrel;obtain ⟨oa,oc,rfl⟩:=q0G hrow;have hbk:=HBk.out.ext hb;have k0:=hbk.cell 0;have hMl:M.length≤n:=by rw[←HMm.out];exact Nat.le_trans (List.length_filter_le _ _) (by rw[List.length_take,HN.out];omega)
  by_cases hlt:k<n
  ·have hd:decide ((k:Int)<(n:Int))=true:=decide_eq_true (by omega)
   have hki:(k:Int)<(n:Int):=by omega
   have q1:IntKind.i64.wrap ((k:Int)+1)=(k:Int)+1:=by rw[IntKind.wrap_i64];omega
   obtain ⟨bb,off,rfl,c0,c1,c2,c3,c4⟩:=(HT.out.ext hb).at hlt;have HS:=η44 (z6i (fun t:To=>decide (t.s=s)) L to0 (k:=k) (by rw[HN.out];exact hlt));generalize L.getD k to0=t at*;obtain ⟨ts,tv,⟨ty,da,we⟩⟩:=t;simp only at c0 c1 c2 c3 c4;obtain ⟨no,hno⟩: ∃no,M.length=no:=⟨_,rfl⟩
   have HNo:=η44 hno;have hsf:=q1T;rw[hno] at hrow hMl⊢;have HRw:=η44 hrow;have HB:=η44 hb;have HSz:=η44 hb.size;have HRl:=η44 (show Rd (wr.alloc (.cells #[.string ⟨ts.toArray⟩,.int .i64 tv,.string ⟨ty.toArray⟩,.string ⟨da.toArray⟩,.float .f64 we] 87)) (some ⟨wr.heap.size,0,none⟩) (toc ⟨ts,tv,⟨ty,da,we⟩⟩) from Rd.lit wr #[.string ⟨ts.toArray⟩,.int .i64 tv,.string ⟨ty.toArray⟩,.string ⟨da.toArray⟩,.float .f64 we] 87);have HRw2:=η44 (q0J hrow (q0B wr (.cells #[.string ⟨ts.toArray⟩,.int .i64 tv,.string ⟨ty.toArray⟩,.string ⟨da.toArray⟩,.float .f64 we] 87)));clear hrow hb hbk hno;by_cases hs:ts=s
   ·subst hs
    have e1:(ts==ts)=true:=beq_self_eq_true ts
    go_wp2_with (at_builtin;refine q0M rfl _ _ 35 rfl w.heap.size 87 _ 5 64 Tryz.underlying35 Tryz.infoTo (by decide) (by decide) _ no (q5E M) rfl HRw2.out _ 1 1 (toc ⟨ts,tv,⟨ty,da,we⟩⟩) rfl rfl (fun h=>by cases h) HRl.out (by unfold toc;simp[Value.oneCell']) (by unfold maxLen;omega) (by omega) (by have:=HSz.out;simp;omega) ?_;intro v2 w8 hown hgrow hat;obtain ⟨a2,k2,rfl⟩:=q0G hown;have HO:=η44 hown;have HX:Hid (Ext w w8):=η44 (z7a (w0:=w) (W:=wr) (vq:= .slice oa no oc) HB.out HRw.out hgrow);clear hown hgrow hat)
    go_roundw
    case rel=>
     refine ⟨k+1,_,M++[⟨ts,tv,⟨ty,da,we⟩⟩],rfl,by go_num,by omega,η44 (by rw[HS.out,HMm.out];simp),?_,HX.out⟩;rw[q7b,List.length_append,HNo.out];exact HO.out
    case measure=>simp[intOf];omega
   ·have e1:(ts==s)=false:=beq_eq_false_iff_ne.2 hs
    go_wp2_with fail
    go_roundw
    case rel=>exact ⟨k+1,_,M,rfl,by go_num,by omega,η44 (by rw[HS.out,HMm.out];simp[hs]),by rw[HNo.out];exact HRw.out,HB.out⟩
    case measure=>simp[intOf];omega
  ·obtain rfl:k=n:=by omega
   have hd:decide ((k:Int)<(k:Int))=false:=decide_eq_false (by omega);have hMM:M=L.filter fun t=>decide (t.s=s):=by rw[←HMm.out,List.take_of_length_le (by rw[HN.out];exact Nat.le_refl _)]
   have HRw:=η44 hrow;have HB:=η44 hb;have HMM:=η44 hMM;clear hrow hb hbk hMM hMl;go_wp2_with fail;go_ret;exact ⟨_,rfl,by rw[←HMM.out];exact HRw.out,HB.out⟩
end
section
open Go.RowKit
section
variable {wb w W W':World} {g gs gw rate u n:Nat} {sd c s:Int} {bs:List Bt} {K K':Nat→Prop}
def WrI (W:World) (gw gs:Nat) (str:List UInt8) (a:Int):Prop:=Blk W gw 94 #[.pointer (some ⟨gs,0,none⟩),.string ⟨str.toArray⟩,.int .i64 a]
theorem q6t (h:SK wb w g gs rate sd c s u n bs K) (hn:n≤1000) (str:List UInt8) (hs:str.length≤4611686018427387903) (a:Int):
  Calls Tryz.prog 10 #[.pointer (some ⟨gs,0,none⟩),.string ⟨str.toArray⟩,.int .i64 a] w fun e w'=>Ext wb w'∧Stay K w w'∧
   ((q5f bs str a≠0∧e= .returned (.tuple #[.pointer none,.int .i64 (q5f bs str a)])∧SK wb w' g gs rate sd c s u n bs K)∨
   (q5f bs str a=0∧ ∃gw,e= .returned (.tuple #[.pointer (some ⟨gw,0,none⟩),.int .i64 0])∧WrI w' gw gs str a∧¬K gw∧wb.heap.size≤gw∧SK wb w' g gs rate sd c s u n bs (fun i=>K i∨i=gw))):=by
 obtain ⟨x,y,hxy⟩: ∃x y,q3c bs str=(x,y):=⟨_,_,rfl⟩
 have HL:=η44 (h.last hn str hs hxy);have hz:q5f bs str a=if y≠0 then y else if a< -1 then 2 else if x<a then 80 else 0:=by unfold q5f;rw[hxy]
 have HZ:=η44 hz;clear h hxy hz;generalize q5f bs str a=z at*;go_enter Tryz.func10,Tryz.ntmps10;go_wp2_with fail;refine HL.out.mono ?_;rintro e w1 ⟨rfl,h1,h2⟩;have HK:=η44 h1;have HS:=η44 h2;clear h1 h2 HL;by_cases hy:y=0
 ·have hd0:(y !=(0:Int))=false:=by rw[hy];rfl
  by_cases ha:a< -1
  ·have hd1:decide (a<(-1:Int))=true:=decide_eq_true ha
   have HZ1:Hid (z=2):=η44 (by have:=HZ.out;rw[if_neg (by omega),if_pos ha] at this;exact this);clear ha;go_wp2_with fail;go_ret2;exact ⟨HK.out.base,HS.out,.inl ⟨by rw[HZ1.out];decide,by rw[HZ1.out];rfl,HK.out⟩⟩
  ·have hd1:decide (a<(-1:Int))=false:=decide_eq_false ha
   by_cases hx:x<a
   ·have hd2:decide (x<a)=true:=decide_eq_true hx
    have HZ1:Hid (z=80):=η44 (by have:=HZ.out;rw[if_neg (by omega),if_neg ha,if_pos hx] at this;exact this);clear ha hx;go_wp2_with fail;go_ret2;exact ⟨HK.out.base,HS.out,.inl ⟨by rw[HZ1.out];decide,by rw[HZ1.out];rfl,HK.out⟩⟩
   ·have hd2:decide (x<a)=false:=decide_eq_false hx
    have HZ1:Hid (z=0):=η44 (by have:=HZ.out;rw[if_neg (by omega),if_neg ha,if_neg hx] at this;exact this);clear ha hx;go_wp2_with fail;go_ret2;have hx1:=q0B w1 (.cells #[.pointer (some ⟨gs,0,none⟩),.string ⟨str.toArray⟩,.int .i64 a] 94);refine ⟨HK.out.base.trans hx1,fun i hi=>(hx1.block i (HK.out.klt i hi)).trans (HS.out i hi),.inr ⟨HZ1.out,_,rfl,Blk.new w1 _ _,fun hk=>Nat.lt_irrefl _ (HK.out.klt _ hk),HK.out.base.size,HK.out.more hx1 fun i hi=>?_⟩⟩;rcases hi with hi|hi
    ·exact .inl hi
    ·exact .inr ⟨by omega,by rw[World.size_alloc];omega⟩
 ·have hd0:(y !=(0:Int))=true:=by simpa using hy
  have HZ1:Hid (z=y):=η44 (by have:=HZ.out;rw[if_pos hy] at this;exact this);go_wp2_with fail;go_ret2;exact ⟨HK.out.base,HS.out,.inl ⟨by rw[HZ1.out];exact hy,by rw[HZ1.out];rfl,HK.out⟩⟩
theorem z7L {str:List UInt8} {a:Int} (h:WrI w gw gs str a):Calls Tryz.prog 16 #[.pointer (some ⟨gw,0,none⟩)] w fun e w'=>e= .returned (.int .i64 a)∧w=w':=by
 have k0:=h.cell 0;have k2:=h.cell 2;clear h;go_enter Tryz.func16,Tryz.ntmps16;go_wp2_with fail;go_ret;exact ⟨rfl,rfl⟩
theorem WrI.same {W W':World} {str:List UInt8} {a:Int} (h:WrI W gw gs str a) (k:W'.heap[gw]? =W.heap[gw]?):WrI W' gw gs str a:=Blk.same h k
theorem z9p (h:SK wb w g gs rate sd c s u n bs K) (hn:n≤1000) {str:List UInt8} {a:Int} (hw:WrI w gw gs str a) (hgw:K gw) (hs:str.length≤4611686018427387903) (ha: -1≤a) (ha2:a≤1000000000) {ao:Option Addr} {k cap:Nat} {L:List Ev} (hx: ∀W,Ext wb W→Stay K w W→Evs W ao k cap L) (hk:k≤1000000):
  Calls Tryz.prog 44 #[.pointer (some ⟨gw,0,none⟩),.slice ao k cap] w fun e w'=>e= .returned (.bool (q2x bs str a L))∧SK wb w' g gs rate sd c s u n bs K∧Stay K w w':=by
 have hev:=hx w h.base (Stay.refl _ _);have hlen:=hev.len;have hq:=hev.fits;have hq2:=hev.bound;have HX:=η44 hx;have HK:=η44 h;have HF:=η44 ((h.grow (Ext.refl _).drew).forward hn str hs (a+1) (k:Int) (by omega) (by omega));have k0:=hw.cell 0;have k1:=hw.cell 1;have k2:=hw.cell 2;have q1:IntKind.i64.wrap (a+1)=a+1:=by rw[IntKind.wrap_i64];omega
 have hth:q2x bs str a L=(!L.isEmpty&&q0v ((z6j bs str (a+1) (k:Int)).map To.e) L):=by unfold q2x;rw[hlen]
 have HTh:=η44 hth;have HB:=η44 h.base;clear hx h hw hev hth;generalize q2x bs str a L=z at*;go_enter Tryz.func44,Tryz.ntmps44;by_cases hk0:k=0
 ·have hd0:((k:Int)==0)=true:=by rw[hk0];rfl
  have hL:L=[]:=List.eq_nil_of_length_eq_zero (by omega);have hz:z=false:=by have:=HTh.out;rw[hL] at this;simpa using this
  clear hlen;go_wp2_with fail;go_ret;exact ⟨by rw[hz];rfl,HK.out,Stay.refl _ _⟩
 have hd0:((k:Int)==0)=false:=by simpa using hk0
 have hkL:L≠[]:=fun e=>by rw[e] at hlen;simp at hlen;omega
 have HL:=η44 hkL;obtain ⟨R,hR⟩: ∃R,z6j bs str (a+1) (k:Int)=R:=⟨_,rfl⟩
 obtain ⟨y,hy⟩: ∃y,q4z str (a+1) (k:Int)=y:=⟨_,rfl⟩
 have HR:Hid (y≠0→R=[]):=η44 fun h=>by rw[←hR];unfold z6j;rw[if_neg (by rw[hy];exact h)]
 have hRl:R.length≤k:=by
  rw[←hR];unfold z6j q7s
  split
  ·rw[List.length_take];omega
  ·simp
 rw[hR] at HTh;rw[hR,hy] at HF;have d0:=q0A (Ext.refl _).drew k0;have d1:=q0A (Ext.refl _).drew k1;have d2:=q0A (Ext.refl _).drew k2;clear hR hy hkL;go_wp2_with fail
 go_region_held3 (fun W=>W.cell? ⟨gw,0,none⟩=some (.pointer (some ⟨gs,0,none⟩))∧W.cell? ⟨gw,1,none⟩=some (.string ⟨str.toArray⟩)∧W.cell? ⟨gw,2,none⟩=some (.int .i64 a))
  (first|exact HC3.out|exact ⟨d0,d1,d2⟩)
  (first|(go_at_call 29;refine HF.out.mono ?_;rintro e w3 ⟨v,rfl,h1,h2,h3,h4⟩;obtain ⟨va,vc,rfl⟩:=q0G h3;have HK3:=η44 h1;have HS3:Hid (Stay K w w3):=η44 h2;have HR3:=η44 h3;have HD3:=η44 h4;have HC3:Hid (w3.cell? ⟨gw,0,none⟩=some (.pointer (some ⟨gs,0,none⟩))∧w3.cell? ⟨gw,1,none⟩=some (.string ⟨str.toArray⟩)∧w3.cell? ⟨gw,2,none⟩=some (.int .i64 a)):=η44 ⟨(World.cell?_of_block (a:=⟨gw,0,none⟩) (h2 gw hgw)).trans k0,(World.cell?_of_block (a:=⟨gw,1,none⟩) (h2 gw hgw)).trans k1,(World.cell?_of_block (a:=⟨gw,2,none⟩) (h2 gw hgw)).trans k2⟩;clear h1 h2 h3 h4))
 clear HC3 d0 d1 d2 k0 k1 k2;by_cases hy:y=0
 case neg=>
  have hd1:(y !=(0:Int))=true:=by simpa using hy
  have hz:z=false:=by
   have h1:=HTh.out;rw[HR.out hy] at h1;have h2:q0v (([]:List To).map To.e) L=false:=q7H (by rw[hlen];simp;omega);rw[h2,Bool.and_false] at h1;exact h1
  clear hy;go_wp2_with fail;go_ret;exact ⟨by rw[hz];rfl,HK3.out.beside fun i hi=> .inl hi,HS3.out⟩
 have hd1:(y !=(0:Int))=false:=by rw[hy];rfl
 have ht:=(q5t HR3.out).1;obtain ⟨nT,hnT⟩: ∃nT,R.length=nT:=⟨_,rfl⟩
 have HnT:=η44 hnT;obtain ⟨KT,hKT⟩: ∃K':Nat→Prop,(fun i=>K i∨(Value.slice va R.length vc).ownBlock=some i)=K':=⟨_,rfl⟩
 have HKT:Hid (∀i,K i→KT i):=η44 fun i hi=>by rw[←hKT];exact .inl hi
 have HTA:Hid (∀W,Stay KT w3 W→Tos W va nT vc R):=η44 fun W kk=>by
  have:=(q5t (q0a HR3.out fun i hi=>kk i (by rw[←hKT];exact .inr hi))).1
  rwa [hnT] at this
 rw[hKT] at HK3;rw[hnT] at hRl ht⊢;have hq3:=ht.fits;have hq4:=ht.bound;clear hy hKT HR3 HD3 hnT ht;go_wp2_with fail
 go_loopw [7,36] (fun ov oi W=> ∃(j:Nat) (vI:Value) (M:List Ev),ov=vI∧oi= .int .i64 (j:Int)∧j≤nT∧Hid ((R.map To.e).take j=M)∧SK wb W g gs rate sd c s u n bs (fun i=>KT i∨vI.ownBlock=some i)∧Stay KT w3 W∧
  W.ownsRow wb.heap.size 85 3 vI M.length (q4q M)∧ ∀i,KT i→vI.ownBlock≠some i) (fun _ i _=>nT-(intOf i).toNat)
 case atStart=>exact ⟨0,_,[],rfl,rfl,Nat.zero_le _,η44 (by simp),HK3.out.beside fun i hi=>(by rcases hi with hi|hi;exact hi;cases hi),Stay.refl _ _,⟨rfl,.inl ⟨rfl,rfl⟩⟩,fun i _ e=>by cases e⟩
 case round=>
  obtain ⟨j,vI,M,rfl,rfl,hj,HM,hsk,hsy,hrow,hdj⟩:=hrel;obtain ⟨ia,ic,rfl⟩:=q0G hrow;have hMl:M.length=j:=by rw[←HM.out,List.length_take,List.length_map,HnT.out];omega
  by_cases hlt:j<nT
  ·have hd2:decide ((j:Int)<(nT:Int))=true:=decide_eq_true (by omega)
   have hji:(j:Int)<(nT:Int):=by omega
   have q8:IntKind.i64.wrap ((j:Int)+1)=(j:Int)+1:=by rw[IntKind.wrap_i64];omega
   obtain ⟨bb,off,rfl,c0,c1,c2,c3,c4⟩:=(HTA.out _ hsy).at hlt
   have HM2:Hid ((R.map To.e).take (j+1)=M++[(R.getD j to0).e]):=η44 (by
    have h:=HnT.out
    rw[List.take_succ_eq_append_getElem (by rw[List.length_map];omega),HM.out,List.getElem_map,List.getD_eq_getElem?_getD,List.getElem?_eq_getElem (by omega)];rfl)
   generalize R.getD j to0=t at*;obtain ⟨ts,tv,⟨ty,da,we⟩⟩:=t;simp only at c0 c1 c2 c3 c4 HM2;have hsf:=q1T;have hx1:=q0B wr (.cells #[.string ⟨ts.toArray⟩,.int .i64 tv,.string ⟨ty.toArray⟩,.string ⟨da.toArray⟩,.float .f64 we] 87);have hbk:=Blk.new wr 87 #[.string ⟨ts.toArray⟩,.int .i64 tv,.string ⟨ty.toArray⟩,.string ⟨da.toArray⟩,.float .f64 we];have e0:=hbk.cell 0;have e1:=hbk.cell 1;have e2:=hbk.cell 2;have e3:=hbk.cell 3;have e4:=hbk.cell 4;have HKj:=η44 (hsk.grow hx1);have HSj:=η44 hsy;have HDj:=η44 hdj;have HSx:Hid (Stay KT wr (wr.alloc (.cells #[.string ⟨ts.toArray⟩,.int .i64 tv,.string ⟨ty.toArray⟩,.string ⟨da.toArray⟩,.float .f64 we] 87))):=η44 fun i hi=>hx1.block i (hsk.klt i (.inl hi))
   have hrl:=Rd.lit (wr.alloc (.cells #[.string ⟨ts.toArray⟩,.int .i64 tv,.string ⟨ty.toArray⟩,.string ⟨da.toArray⟩,.float .f64 we] 87)) #[.string ⟨ty.toArray⟩,.string ⟨da.toArray⟩,.float .f64 we] 85;rw[World.size_alloc] at hrl;have HRl:=η44 hrl;have HRj:=η44 (q0J hrow hx1);have HBs:=η44 hsk.base.size;rw[hMl] at HKj HRj HDj⊢;have HMl:=η44 hMl;clear hsk hsy hrow hdj hx1 hbk hMl hrl
   go_wp2_with (at_builtin;refine q0M rfl _ _ 43 rfl wb.heap.size 85 _ 3 40 Tryz.underlying43 Tryz.infoEv (by decide) (by decide) _ j (q4q M) rfl (q0J HRj.out (q0B _ _)) _ 1 1 (evc ⟨ty,da,we⟩) rfl rfl (fun h=>by cases h) HRl.out (by unfold evc;simp[Value.oneCell']) (by unfold maxLen;omega) (by omega) (by have:=HBs.out;simp;omega) ?_;intro v2 w8 hown hgrow hat;obtain ⟨a2,k2,rfl⟩:=q0G hown;have HO:=η44 hown;have HR8:=η44 (SK.row1 (K:=KT) (vq:= .slice ia j ic) HKj.out (Nat.le_refl _) HRj.out hown hgrow hat HDj.out);clear hown hgrow hat)
   go_roundw
   case rel=>
    refine ⟨j+1,_,M++[⟨ty,da,we⟩],rfl,by go_num,by omega,HM2,HR8.out.1,fun i hi=>((HR8.out.2.1 i hi).trans (HSx.out i hi)).trans (HSj.out i hi),?_,HR8.out.2.2⟩;rw[q4p,List.length_append,HMl.out];exact HO.out
   case measure=>simp[intOf];omega
  ·obtain rfl:j=nT:=by omega
   have hd2:decide ((j:Int)<(j:Int))=false:=decide_eq_false (by omega);have hMR:M=R.map To.e:=by rw[←HM.out,List.take_of_length_le (by rw[List.length_map,HnT.out];exact Nat.le_refl _)]
   have hst:Stay K w wr:=fun i hi=>(hsy i (HKT.out i hi)).trans (HS3.out i hi)
   have hevL:=HX.out wr hsk.base hst;obtain ⟨ia',ic',e1,hevI⟩:=Evs.of_own (Own.of_row hrow)
   cases e1;have HAl:=η44 (y1B wr hevI hevL (by omega) hk);have HSt:=η44 hst;have HKf:=η44 (hsk.beside fun i hi=> .inl (HKT.out i hi));have hzz:q0v M L=z:=by
    have h1:=HTh.out;rw[hMR,h1]
    cases hL:L with
    |nil=>exact absurd hL HL.out
    |cons a l=>simp
   have HZ:=η44 hzz;clear hsk hsy hrow hdj hst hevL hevI hMR hzz hMl;go_wp2_with fail;refine HAl.out.mono ?_;rintro e w5 ⟨rfl,hx5⟩;have HK5:=η44 (HKf.out.grow hx5);have HS5:Hid (Stay K w w5):=η44 fun i hi=>(HKf.out.kExt hx5 i hi).trans (HSt.out i hi)
   clear hx5 HAl;go_wp2_with fail;go_ret;exact ⟨by rw[←HZ.out];rfl,HK5.out,HS5.out⟩
end
end
section
open Go.RowKit
variable {w :World} {p:Option Addr}
end
section
open Go.RowKit
theorem z5T {A:List Acm} {m:Int} (h:q6K A m=false):(A.length:Int)≤m∧ ∀x∈A,x.st.length≤300∧x.n≤20∧ ∀e∈x.L,e.ty.length≤300∧e.da.length≤300:=by
 unfold q6K at h;rw[Bool.or_eq_false_iff] at h;refine ⟨by have:=of_decide_eq_false h.2;omega,fun x hx=>?_⟩;have h1:=List.any_eq_false.1 h.1 x hx;unfold q3W at h1;simp only[Bool.or_eq_true,not_or,decide_eq_true_eq] at h1;refine ⟨by omega,by omega,fun e he=>?_⟩;have h2:=List.any_eq_false.1 (by simpa using h1.2) e he;unfold q5S at h2;simp only[Bool.or_eq_true,not_or,decide_eq_true_eq] at h2;omega
end
end Go.Proofs.YthdekbmdkpcooaaGreatDoor
