/- The shelf's contract of slices.Reverse at []api.Told at this seat, in plain words. -/
import Derived.Shelf.SlicesQ.Reverse
import Derived.Ground.SlgnProg
import Derived.Test.YthdekbmdkpcooaaGreatDoorG44WP
set_option linter.unusedVariables false
set_option linter.unusedSimpArgs false
set_option maxRecDepth 100000
set_option maxHeartbeats 12800000
namespace Go.Proofs
open Go.Shelf
end Go.Proofs
namespace Go.Proofs.YthdekbmdkpcooaaGreatDoor
theorem η45 {p:Prop} (h:p):Go.RowKit.Hid p:=Lib.hid h
section
open Go.RowKit Go.Sort Go.Lib
instance : Inhabited To:=⟨to0⟩
section
variable {wb w W W1 W2:World} {g gl gs gx rate:Nat} {m:Man} {ws:List En} {c s sd:Int} {u cnt:Nat} {B:List En} {C:Cks} {P:Pbs} {sure:Int} {K K':Nat→Prop}
end
end
section
open Go.RowKit
theorem q9s : ∀(C:Cks) (b:Nat),(∀ps∈C,ps≠[])→C.length≤(q0w b C).length
 |[],_,_=>Nat.le_refl _
 | ps::t,b,h=>by
  have h1:=q9s t (b+4096) fun q hq=>h q (.tail _ hq)
  have h2:0<ps.length:=List.length_pos_iff.2 (h ps (.head _));rw[q0w,List.length_append,q4O,List.length_cons];omega
theorem q9g {bs:List Bt} (h:okBs bs):(tos bs).length≤8*bs.length:=by
 induction bs using q9d with
 |h0=>exact Nat.le_refl _
 | h1 l b ih=>
  obtain ⟨h1,h2,_⟩:=okBs_snoc.1 h;have h3:=(q0j h2.1).2.2.2.1;have h4:=ih h1;rw[q2Q,q5y,List.length_append,q3s,List.length_append,List.length_singleton];omega
def SK (wb W:World) (g gs rate:Nat) (sd c s:Int) (u n:Nat) (bs:List Bt) (K:Nat→Prop):Prop:=
 ∃gl gx m ws B C sure P,StoP wb W g gs gl gx rate m ws sd c s u (40+3*n) B C sure P K∧q1e P=bs∧m.nx≤n∧bs.length≤n∧0≤sd∧sd<18446744073709551616
def SQ (wb W:World) (g:Nat) (sd c s:Int) (u n:Nat) (bs:List Bt) (K:Nat→Prop):Prop:=
 ∃m B C P,DKQ wb W g m c s u (40+3*n) B C K∧y2a sd m B C P∧B.Nodup∧q1e P=bs∧m.nx≤n∧bs.length≤n∧0≤sd∧sd<18446744073709551616
section
variable {wb w W W':World} {g gs rate u n:Nat} {sd c s:Int} {bs:List Bt} {K K':Nat→Prop}
theorem StoP.bounds {gl gx:Nat} {m:Man} {ws:List En} {cnt:Nat} {B:List En} {C:Cks} {sure:Int} {P:Pbs} (h:StoP wb W g gs gl gx rate m ws sd c s u cnt B C sure P K) (hb:q1e P=bs) (hn:bs.length≤n):
  (tos bs).length≤8*n∧B.length≤8*n∧C.length≤n∧okBs bs:=by
 have hok:okBs bs:=hb▸h.stE.ok;have h1:=q9g hok;have h2:=h.len;rw[hb] at h2;have h3:=q9s C 0 h.i.cOk.full;rw[h.recE,q6o] at h3;have h4:bs.length=P.length:=by rw[←hb];exact List.length_map _
 exact ⟨by omega,by omega,by omega,hok⟩
theorem SK.few (h:SK wb W g gs rate sd c s u n bs K):bs.length≤n∧(tos bs).length≤8*n:=by
 obtain ⟨gl,gx,m,ws,B,C,sure,P,h1,h2,_,h4,_⟩:=h;exact ⟨h4,(h1.bounds h2 h4).1⟩
theorem SK.base (h:SK wb W g gs rate sd c s u n bs K):Ext wb W:=by
 obtain ⟨gl,gx,m,ws,B,C,sure,P,h1,_⟩:=h;exact h1.base
theorem SK.klt (h:SK wb W g gs rate sd c s u n bs K): ∀i,K i→i<W.heap.size:=by
 obtain ⟨gl,gx,m,ws,B,C,sure,P,h1,_⟩:=h;exact h1.klt
theorem SK.grow (h:SK wb W g gs rate sd c s u n bs K) (k:Ext W W'):SK wb W' g gs rate sd c s u n bs K:=by
 obtain ⟨gl,gx,m,ws,B,C,sure,P,h1,h2⟩:=h;exact ⟨gl,gx,m,ws,B,C,sure,P,h1.grow k,h2⟩
theorem SK.kExt (h:SK wb W g gs rate sd c s u n bs K) (k:Ext W W'):Stay K W W':=fun i hi=>k.block i (h.klt i hi)
theorem SK.more (h:SK wb W g gs rate sd c s u n bs K) (k:Ext W W') (hK: ∀i,K' i→K i∨(W.heap.size≤i∧i<W'.heap.size)):SK wb W' g gs rate sd c s u n bs K':=by
 obtain ⟨gl,gx,m,ws,B,C,sure,P,h1,h2⟩:=h;exact ⟨gl,gx,m,ws,B,C,sure,P,h1.more k hK,h2⟩
theorem SK.beside (h:SK wb W g gs rate sd c s u n bs K) (k: ∀i,K' i→K i):SK wb W g gs rate sd c s u n bs K':=by
 obtain ⟨gl,gx,m,ws,B,C,sure,P,h1,h2⟩:=h;exact ⟨gl,gx,m,ws,B,C,sure,P,h1.beside k,h2⟩
theorem SK.sideM (h:SK wb W g gs rate sd c s u n bs K) (hs:W.heap.size≤W'.heap.size) (hx:Ext wb W') (k: ∀i,i<W.heap.size→¬K i→W'.heap[i]? =W.heap[i]?) (hK: ∀i,K' i→K i∨(W.heap.size≤i∧i<W'.heap.size)):SK wb W' g gs rate sd c s u n bs K':=by
 obtain ⟨gl,gx,m,ws,B,C,sure,P,h1,h2⟩:=h;exact ⟨gl,gx,m,ws,B,C,sure,P,h1.sideM hs hx k hK,h2⟩
def EvR (wb w:World) (g gs rate:Nat) (sd c s:Int) (u n:Nat) (bs:List Bt) (K:Nat→Prop) (R:List To) (z:Int) (e:Ending) (w':World):Prop:=
 ∃v,e= .returned (.tuple #[v,.int .i64 z])∧SK wb w' g gs rate sd c s u n bs (fun i=>K i∨v.ownBlock=some i)∧Stay K w w'∧w'.ownsRow wb.heap.size 87 5 v R.length (q5E R)∧ ∀i,K i→v.ownBlock≠some i
theorem SK.last (h:SK wb w g gs rate sd c s u n bs K) (hn:n≤1000) (str:List UInt8) (hs:str.length≤4611686018427387903) {x y:Int} (hr:q3f bs str=(x,y)):
  Calls Tryz.prog 28 #[.pointer (some ⟨gs,0,none⟩),.string ⟨str.toArray⟩] w fun e w'=>e= .returned (.tuple #[.int .i64 x,.int .i64 y])∧SK wb w' g gs rate sd c s u n bs K∧Stay K w w':=by
 obtain ⟨gl,gx,m,ws,B,C,sure,P,h1,rfl,h3,h4,h5⟩:=h;obtain ⟨b1,b2,b3,b4⟩:=h1.bounds rfl h4;have b5:=q3i (q1e P) str;refine (z4j h1 str hs (by omega) (by omega) hr).mono ?_;rintro e w' ⟨rfl,k1,k2⟩;exact ⟨rfl,⟨gl,gx,m,ws,B,C,sure,P,k1,rfl,h3,h4,h5⟩,k2⟩
theorem SK.all (h:SK wb w g gs rate sd c s u n bs K) (hn:n≤1000):Calls Tryz.prog 17 #[.pointer (some ⟨gs,0,none⟩)] w (EvR wb w g gs rate sd c s u n bs K (tos bs) 0):=by
 obtain ⟨gl,gx,m,ws,B,C,sure,P,h1,rfl,h3,h4,h5⟩:=h;obtain ⟨b1,b2,b3,b4⟩:=h1.bounds rfl h4;refine (y1U h1 rfl (by omega)).mono ?_;rintro e w' ⟨v,rfl,k1,k2⟩;exact ⟨v,rfl,⟨gl,gx,m,ws,B,C,sure,P,k1,rfl,h3,h4,h5⟩,k2⟩
theorem SK.forward (h:SK wb w g gs rate sd c s u n bs K) (hn:n≤1000) (str:List UInt8) (hs:str.length≤4611686018427387903) (fr ct:Int) (hf0: -9223372036854775808≤fr) (hf1:fr≤9223372036854775807):
  Calls Tryz.prog 29 #[.pointer (some ⟨gs,0,none⟩),.string ⟨str.toArray⟩,.int .i64 fr,.int .i64 ct] w (EvR wb w g gs rate sd c s u n bs K (z6k bs str fr ct) (q4w str fr ct)):=by
 obtain ⟨gl,gx,m,ws,B,C,sure,P,h1,rfl,h3,h4,h5⟩:=h;obtain ⟨b1,b2,b3,b4⟩:=h1.bounds rfl h4;have b5:=q3i (q1e P) str;refine (z3l h1 str hs fr ct hf0 hf1 (by omega) (by omega)).mono ?_;rintro e w' ⟨v,rfl,k1,k2⟩;exact ⟨v,rfl,⟨gl,gx,m,ws,B,C,sure,P,k1,rfl,h3,h4,h5⟩,k2⟩
theorem SK.flush (h:SK wb w g gs rate sd c s u n bs K):Calls Tryz.prog 45 #[.pointer (some ⟨gs,0,none⟩)] w fun e w'=>e= .returned (.int .i64 0)∧SK wb w' g gs rate sd c s u n bs K∧Stay K w w':=by
 obtain ⟨gl,gx,m,ws,B,C,sure,P,h1,h2⟩:=h;refine (z8M h1).mono ?_;rintro e w' ⟨rfl,k1,k2⟩;exact ⟨rfl,⟨gl,gx,m,ws,B,C,_,P,k1,h2⟩,k2⟩
theorem SK.append (h:SK wb w g gs rate sd c s u n bs K) (hn:n≤86) (str:List UInt8) (hs:str.length≤4611686018427387903) (ex:Int) {ao:Option Addr} {k cap:Nat} {L:List Ev} (hx: ∀W,Ext wb W→Stay K w W→Evs W ao k cap L) (hL:q1A L)
  (hwe: ∀e∈L,e.we<18446744073709551616) {z:Int} (hz:q8A bs str ex L=z):
  Calls Tryz.prog 12 #[.pointer (some ⟨gs,0,none⟩),.string ⟨str.toArray⟩,.int .i64 ex,.slice ao k cap] w fun e w'=>
   ∃ x y bs',e= .returned (.tuple #[.int .i64 x,.int .i64 y])∧SK wb w' g gs rate sd c s (u+2024) (n+1) bs' K∧Stay K w w'∧
    ((z≠0∧x=0∧y=z∧bs'=bs)∨(z=0∧x=0∧y=60∧bs'=bs∧c-(u:Int)-2024<6000)∨(z=0∧x=((q0T bs str).length:Int)∧y=0∧bs'=bs++[⟨str,(q0T bs str).length,L⟩])):=by
 obtain ⟨gl,gx,m,ws,B,C,sure,P,h1,rfl,h3,h4,h5⟩:=h;obtain ⟨b1,b2,b3,b4⟩:=h1.bounds rfl h4;have b5:=q3i (q1e P) str;refine (z6f h1 str hs ex hx hL hwe (by omega) (by omega) (by omega)).mono ?_;rw[hz];rintro e w' ⟨⟨k0,rfl,k1⟩|⟨rfl,rfl,k1,k3⟩|⟨rfl,k3,pos,ws',B',C',sure',rfl,k1⟩,k2⟩
 ·exact ⟨_,_,_,rfl,⟨gl,gx,m,ws,B,C,sure,P,k1.mono (by omega) (by omega),rfl,by omega,by omega,h5⟩,k2,.inl ⟨k0,rfl,rfl,rfl⟩⟩
 ·exact ⟨_,_,_,rfl,⟨gl,gx,m,ws,B,C,sure,P,k1.mono (by omega) (by omega),rfl,by omega,by omega,h5⟩,k2,.inr (.inl ⟨rfl,rfl,rfl,rfl,by omega⟩)⟩
 ·exact ⟨_,_,_,rfl,⟨gl,gx,m,ws',B',C',sure',_,k1.mono (by omega) (by omega),rfl,by omega,by rw[q4K,List.length_append,List.length_singleton];omega,h5⟩,k2,.inr (.inr ⟨rfl,rfl,rfl,q4K _ _ _⟩)⟩
theorem SQ.open (h:SQ wb w g sd c s u n bs K) (hn:n≤200) (rate:Nat):Calls Tryz.prog 32 #[.pointer (some ⟨g,0,none⟩),.int .u64 sd,.float .f64 rate] w fun e w'=>
  ∃gs,e= .returned (.tuple #[.pointer (some ⟨gs,0,none⟩),.int .i64 0])∧SK wb w' g gs rate sd c s u n bs K∧Stay K w w':=by
 obtain ⟨m,B,C,P,h1,h2,h3,rfl,h4,h5,h6,h7⟩:=h;have h8:=q9g h2.ok;refine (z9q h1 h2 h6 h7 (by omega) (by omega) h3 rate).mono ?_;rintro e w' ⟨gs,gl,gx,m',ws,B',sure,rfl,k1,k2,k3⟩;exact ⟨gs,rfl,⟨gl,gx,m',ws,B',C,sure,P,k1,rfl,by omega,h5,h6,h7⟩,k3⟩
theorem DkK.sq (h:DkK noO wb w g c s [] K) (sd:Int) (hs0:0≤sd) (hs1:sd<18446744073709551616):SQ wb w g sd c s 0 0 [] K:=by
 obtain ⟨F,σ,h1,h2⟩:=h;have hpl:Pl σ c s []:=by have:=h2.pl;simpa [q2L,noO,q2T,q5n,q3H,q4E] using this
 have hv:q0g 0 0 []=true:=by decide
 refine ⟨⟨0,0,sd,[]⟩,[],[],[],⟨⟨⟨0,0,sd,[]⟩,0,[],fun _=>none,0⟩,σ,fun _=>none,F,rfl,rfl,h1,⟨⟨⟨[],hpl,List.Pairwise.nil,fun _=>rfl,Nat.zero_le _,Nat.zero_le _⟩,⟨hv,hs0,hs1⟩,(fun n hn=>by cases hn),(fun n e he=>by cases he),(fun nm hn=>absurd rfl hn),okM.nil,okM.nil,fun x=>?_⟩,.inr ⟨rfl,rfl,rfl,rfl⟩,fun k _=>by simp⟩,okC.nil⟩,
  ⟨rfl,rfl,okBs.nil,(fun x hx=>by cases hx),(fun x hx=>by cases hx),by show (0:Int)≤q4p [];rw[z3a];decide⟩,List.nodup_nil,rfl,Int.le_refl _,Nat.le_refl _,hs0,hs1⟩
 constructor
 ·intro hx;cases hx
 ·rintro (hx|⟨n,e,he,_⟩)
  ·cases hx
  ·cases he
end
end
section
open Go.RowKit
def q2z (bs:List Bt) (str:List UInt8) (a:Int) (L:List Ev):Bool:=!L.isEmpty&&q0v ((z6k bs str (a+1) (L.length:Int)).map To.e) L
def wrN (bs:List Bt) (str:List UInt8) (a:Int) (L:List Ev):Int×Bool×Int:=
 if q8A bs str a L=0 then (a+1,false,0) else if q8A bs str a L=80∧q2z bs str a L=true then (a+1,true,0) else (0,false,q8A bs str a L)
def wrB (bs:List Bt) (str:List UInt8) (a:Int) (L:List Ev):List Bt:=
 if q8A bs str a L=0 then bs++[⟨str,(q0T bs str).length,L⟩] else bs
def wrA (bs:List Bt) (str:List UInt8) (a:Int) (L:List Ev):Int:=if (wrN bs str a L).2.2=0 then a+(L.length:Int) else a
def q5a (bs:List Bt) (str:List UInt8) (a:Int):Int:=
 if (q3f bs str).2≠0 then (q3f bs str).2 else if a< -1 then 2 else if (q3f bs str).1<a then 80 else 0
end
section
open Go.RowKit
def z6m (b:Nat):Int:=if b<9223372036854775808 then (b:Int)+9223372036854775808 else 18446744073709551615-(b:Int)
theorem z2r (b:Nat) (hb:b<18446744073709551616) (w:World):Calls Tryz.prog 135 #[.float .f64 b] w fun e w'=>e= .returned (.int .u64 (z6m b))∧w=w':=by
 have hfb:=q3b;by_cases h:b<9223372036854775808
 ·have hd:decide ((9223372036854775808:Int)≤(b:Int))=false:=decide_eq_false (by omega)
  have q:IntKind.u64.wrap ((b:Int)+9223372036854775808)=(b:Int)+9223372036854775808:=by rw[IntKind.wrap_u64];omega
  have HK:Hid (z6m b=(b:Int)+9223372036854775808):=η45 (if_pos h);clear h;go_enter Tryz.func135,Tryz.ntmps135;go_wp2_with fail;go_ret;exact ⟨by rw[HK.out];rfl,rfl⟩
 ·have hd:decide ((9223372036854775808:Int)≤(b:Int))=true:=decide_eq_true (by omega)
  have q:IntKind.u64.wrap (18446744073709551615-(b:Int))=18446744073709551615-(b:Int):=by rw[IntKind.wrap_u64];omega
  have HK:Hid (z6m b=18446744073709551615-(b:Int)):=η45 (if_neg h);clear h;go_enter Tryz.func135,Tryz.ntmps135;go_wp2_with fail;go_ret;exact ⟨by rw[HK.out];rfl,rfl⟩
theorem z7k {a b:Nat} (ha:a<18446744073709551616) (hb:b<18446744073709551616) (h:z6m a=z6m b):a=b:=by
 unfold z6m at h
 split at h<;>split at h<;>omega
theorem z6I (a b:Nat) (ha:a<18446744073709551616) (hb:b<18446744073709551616) (w:World):Calls Tryz.prog 89 #[.float .f64 a,.float .f64 b] w fun e w'=>e= .returned (.bool (decide (a=b)))∧w=w':=by
 have HX:=η45 (z2r a ha);have HY:=η45 (z2r b hb);have hz:(z6m a==z6m b)=decide (a=b):=by
  by_cases h:a=b
  ·rw[h];simp
  ·rw[decide_eq_false h];exact beq_eq_false_iff_ne.2 fun e=>h (z7k ha hb e)
 obtain ⟨z,hzz⟩: ∃z,decide (a=b)=z:=⟨_,rfl⟩
 rw[hzz] at hz⊢;clear hzz ha hb;generalize z6m a=x at*;generalize z6m b=y at*;go_enter Tryz.func89,Tryz.ntmps89;go_wp2_with fail;refine (HX.out _).mono ?_;rintro e w1 ⟨rfl,rfl⟩;go_wp2_with fail;refine (HY.out _).mono ?_;rintro e w1 ⟨rfl,rfl⟩;go_wp2_with fail;go_ret;exact ⟨by rw[←hz];rfl,rfl⟩
theorem z2H (a b:Ev) (ha:a.we<18446744073709551616) (hb:b.we<18446744073709551616) (w:World):Calls Tryz.prog 46 #[.agg #[.string ⟨a.ty.toArray⟩,.string ⟨a.da.toArray⟩,.float .f64 a.we],.agg #[.string ⟨b.ty.toArray⟩,.string ⟨b.da.toArray⟩,.float .f64 b.we]] w fun r w'=>r= .returned (.bool (q3Q a b))∧Ext w w':=by
 obtain ⟨ty,da,we⟩:=a;obtain ⟨ty',da',we'⟩:=b;have hx1:=q0B w (.cells #[.string ⟨ty.toArray⟩,.string ⟨da.toArray⟩,.float .f64 we] 85);have hx2:=q0B (w.alloc (.cells #[.string ⟨ty.toArray⟩,.string ⟨da.toArray⟩,.float .f64 we] 85)) (.cells #[.string ⟨ty'.toArray⟩,.string ⟨da'.toArray⟩,.float .f64 we'] 85);have HX:=η45 (hx1.trans hx2);have hb1:=(Blk.new w 85 #[.string ⟨ty.toArray⟩,.string ⟨da.toArray⟩,.float .f64 we]).ext hx2;have hb2:=Blk.new (w.alloc (.cells #[.string ⟨ty.toArray⟩,.string ⟨da.toArray⟩,.float .f64 we] 85)) 85 #[.string ⟨ty'.toArray⟩,.string ⟨da'.toArray⟩,.float .f64 we'];rw[World.size_alloc] at hb2;have k0:=hb1.cell 0;have k1:=hb1.cell 1;have k2:=hb1.cell 2;have d0:=hb2.cell 0;have d1:=hb2.cell 1;have d2:=hb2.cell 2;obtain ⟨z1,hz1⟩: ∃z1,(ty==ty')=z1:=⟨_,rfl⟩
 obtain ⟨z2,hz2⟩: ∃z2,(da==da')=z2:=⟨_,rfl⟩
 obtain ⟨z3,hz3⟩: ∃z3,decide (we=we')=z3:=⟨_,rfl⟩
 have hs:q3Q ⟨ty,da,we⟩ ⟨ty',da',we'⟩=(z1&&z2&&z3):=by
  unfold q3Q;rw[←hz1,←hz2,←hz3]
  congr 1
  congr 1
  ·by_cases h:ty=ty'<;>simp[h]
  ·by_cases h:da=da'<;>simp[h]
 rw[hs];have HS:=η45 (fun W=>z6I we we' ha hb W);rw[hz3] at HS;clear hx1 hx2 hb1 hb2 hs hz3;go_enter Tryz.func46,Tryz.ntmps46
 cases z1 with
 | false=>
  go_wp2_with fail;go_ret;exact ⟨rfl,HX.out⟩
 | true=>
  cases z2 with
  | false=>
   go_wp2_with fail;go_ret;exact ⟨rfl,HX.out⟩
  | true=>
   go_wp2_with fail;refine (HS.out _).mono ?_;rintro e w1 ⟨rfl,rfl⟩;go_wp2_with fail;go_ret;exact ⟨by simp,HX.out⟩
theorem q6N (t d:List UInt8) (k:FloatKind) (b:Nat) (w:World) (_ht:t.length≤4611686018427387903) (_hd:d.length≤4611686018427387903):
  Calls Tryz.prog 81 #[.agg #[.string ⟨t.toArray⟩,.string ⟨d.toArray⟩,.float k b]] w fun e w'=>e= .returned (.int .i64 (q0X t d))∧Ext w w':=by
 have hbk:=Blk.new w 85 #[.string ⟨t.toArray⟩,.string ⟨d.toArray⟩,.float k b];have HX:=η45 (q0B w (.cells #[.string ⟨t.toArray⟩,.string ⟨d.toArray⟩,.float k b] 85));have c0:(w.alloc (.cells #[.string ⟨t.toArray⟩,.string ⟨d.toArray⟩,.float k b] 85)).cell? ⟨w.heap.size,0,none⟩=some (.string ⟨t.toArray⟩):=hbk.cell 0;have c1:(w.alloc (.cells #[.string ⟨t.toArray⟩,.string ⟨d.toArray⟩,.float k b] 85)).cell? ⟨w.heap.size,1,none⟩=some (.string ⟨d.toArray⟩):=hbk.cell 1;have h3:(((t.length:Int)==0)=true∧q0X t d=2)∨(((t.length:Int)==0)=false∧((decide ((16:Int)<(t.length:Int))=true∧q0X t d=3)∨(decide ((16:Int)<(t.length:Int))=false∧((decide ((200:Int)<(d.length:Int))=true∧q0X t d=3)∨(decide ((200:Int)<(d.length:Int))=false∧q0X t d=0))))):=by
  unfold q0X;by_cases h0:t=[]
  ·exact .inl ⟨by rw[h0];rfl,by rw[if_pos h0]⟩
  ·have hl:0<t.length:=List.length_pos_iff.2 h0
   refine .inr ⟨by simp;omega,?_⟩;rw[if_neg h0];by_cases h1:16<t.length
   ·exact .inl ⟨decide_eq_true (by omega),by rw[if_pos h1]⟩
   ·rw[if_neg h1]
    refine .inr ⟨decide_eq_false (by omega),?_⟩;by_cases h2:200<d.length
    ·exact .inl ⟨decide_eq_true (by omega),by rw[if_pos h2]⟩
    ·exact .inr ⟨decide_eq_false (by omega),by rw[if_neg h2]⟩
 clear hbk;rcases h3 with ⟨h0,he⟩|⟨h0,⟨h1,he⟩|⟨h1,⟨h2,he⟩|⟨h2,he⟩⟩⟩
 all_goals
  rw[he];clear he;go_enter Tryz.func81,Tryz.ntmps81;go_wp2_with fail;go_ret;exact ⟨rfl,HX.out⟩
theorem z1X (e:Ev) (w:World) (he:z5r e):Calls Tryz.prog 84 #[evV e] w fun r w'=>r= .returned (.string ⟨(evB e).toArray⟩)∧Ext w w':=by
 obtain ⟨t,d,b⟩:=e;obtain ⟨h1,h2⟩:=he;obtain ⟨_,h3,h4⟩:=q1k h1;simp only at h1 h2 h3 h4;show Calls _ _ #[.agg #[.string ⟨t.toArray⟩,.string ⟨d.toArray⟩,.float .f64 b]] _ fun r w'=>r= .returned (.string ⟨(q1d t++(q1d d++be 8 b)).toArray⟩)∧Ext w w'
 have HC:=η45 (fun W=>q6N t d .f64 b W (by omega) (by omega));rw[h1] at HC;have HT1:=η45 (fun W=>q7g t W (by omega));have HT2:=η45 (fun W=>q7g d W (by omega));have HP:=η45 (fun W=>z3V (b:Int) 8 8 W rfl (by omega) (by omega) (by omega) (by omega));have l1:(q1d t).length≤1000:=by unfold q1d;split<;>simp[q0H];omega
 have l2:(q1d d).length≤1000:=by unfold q1d;split<;>simp[q0H];omega
 have l3:=q0H 8 ((b:Int)).toNat;obtain ⟨R,hR⟩: ∃R,be 8 ((b:Int)).toNat=R:=⟨_,rfl⟩
 rw[hR] at HP l3;rw[Int.toNat_natCast] at hR;rw[hR];have l3':R.length≤8:=by omega
 have HX:=η45 (q0B w (.cells #[.string ⟨t.toArray⟩,.string ⟨d.toArray⟩,.float .f64 b] 85));have hbk:=Blk.new w 85 #[.string ⟨t.toArray⟩,.string ⟨d.toArray⟩,.float .f64 b];have k0:(w.alloc (.cells #[.string ⟨t.toArray⟩,.string ⟨d.toArray⟩,.float .f64 b] 85)).cell? ⟨w.heap.size,0,none⟩=some (.string ⟨t.toArray⟩):=hbk.cell 0;have k1:(w.alloc (.cells #[.string ⟨t.toArray⟩,.string ⟨d.toArray⟩,.float .f64 b] 85)).cell? ⟨w.heap.size,1,none⟩=some (.string ⟨d.toArray⟩):=hbk.cell 1;have k2:(w.alloc (.cells #[.string ⟨t.toArray⟩,.string ⟨d.toArray⟩,.float .f64 b] 85)).cell? ⟨w.heap.size,2,none⟩=some (.float .f64 b):=hbk.cell 2;have HB0:=η45 hbk;generalize q1d t=A at*;generalize q1d d=D at*;clear hbk h1 h3 h4 hR l3;go_enter Tryz.func84,Tryz.ntmps84;go_wp2_with fail;generalize w.alloc (.cells #[.string ⟨t.toArray⟩,.string ⟨d.toArray⟩,.float .f64 b] 85)=w1 at*;generalize w.heap.size=q at*;refine (HC.out _).mono ?_
 rintro e w2 ⟨rfl,hx⟩;have HX2:=η45 (HX.out.trans hx);have hb2:=HB0.out.ext hx;have c0:w2.cell? ⟨q,0,none⟩=some (.string ⟨t.toArray⟩):=hb2.cell 0;have c1:w2.cell? ⟨q,1,none⟩=some (.string ⟨d.toArray⟩):=hb2.cell 1;have c2:w2.cell? ⟨q,2,none⟩=some (.float .f64 b):=hb2.cell 2;have u0:=q0D c0;have u1:=q0D c1;have u2:=q0D c2;have q1:¬(9223372036854775807<A.length+D.length):=by omega
 have q2:¬(9223372036854775807<(A++D).length+R.length):=by rw[List.length_append];omega
 have q3:¬(9223372036854775807<A.length+D.length+R.length):=by omega
 have hfb:=q3b b;clear hx hb2 k0 k1 k2;go_wp2_with fail;refine q0E (by kernel_rfl) (by kernel_rfl) ?_
 repeat (go_big_quiet_step (fail))
 go_big_quiet_step (exact Calls.quiet_ext (HT1.out _))
 repeat (go_big_quiet_step (fail))
 go_big_quiet_step (exact Calls.quiet_ext (HT2.out _))
 repeat (go_big_quiet_step (fail))
 go_big_quiet_step (exact Calls.quiet_ext (HP.out _))
 repeat (go_big_quiet_step (fail))
 refine wpQuiet_nil ?_;intro w3 hw;have HX3:=η45 (HX2.out.trans hw);clear hw;go_wp2_with fail;go_ret;exact ⟨by rw[q2A,q2A];simp,HX3.out⟩
end
section
open Go.RowKit
theorem q7K {ao:Option Addr} {n cap:Nat} {L:List Ev} (st:List UInt8) (fi:Int) (w:World) (hx:Evs w ao n cap L) (hst:st.length≤4611686018427387903) (hL:q1A L):
  Calls Tryz.prog 40 #[.agg #[.string ⟨st.toArray⟩,.int .i64 fi,.slice ao n cap]] w fun e w'=>e= .returned (.int .i64 (q0N st fi L))∧Ext w w':=by
 have b1:=hx.fits;have b2:=hx.bound;have hlen:=hx.len;have HX:=η45 (q0B w (.cells #[.string ⟨st.toArray⟩,.int .i64 fi,.slice ao n cap] 96));have HBk:=η45 (Blk.new w 96 #[.string ⟨st.toArray⟩,.int .i64 fi,.slice ao n cap]);have c0:=HBk.out.cell 0;have c1:=HBk.out.cell 1;have c2:=HBk.out.cell 2;have HE:=η45 hx;have HL:=η45 hL;clear hx hL;by_cases h1:st=[]
 ·have HN:Hid (q0N st fi L=2):=η45 (by unfold q0N;rw[if_pos (.inl h1)])
  have hd:((st.length:Int)==0)=true:=by rw[h1];rfl
  clear h1;go_enter Tryz.func40,Tryz.ntmps40;go_wp2_with fail;go_ret;exact ⟨by rw[HN.out];rfl,HX.out⟩
 have h1b:((st.length:Int)==0)=false:=by have:=List.length_pos_iff.2 h1;simp;omega
 by_cases h2:n=0
 ·have HN:Hid (q0N st fi L=2):=η45 (by unfold q0N;rw[if_pos (.inr (List.eq_nil_of_length_eq_zero (by omega)))])
  have hd:((n:Int)==0)=true:=by rw[h2];rfl
  clear h1 h2 hlen;go_enter Tryz.func40,Tryz.ntmps40;go_wp2_with fail;go_ret;exact ⟨by rw[HN.out];rfl,HX.out⟩
 have h2b:((n:Int)==0)=false:=by simpa using h2
 have hLn:L≠[]:=fun e=>h2 (by rw[←hlen,e];rfl)
 have hno:¬(st=[]∨L=[]):=fun h=>h.elim h1 hLn
 by_cases h3:32<st.length
 ·have HN:Hid (q0N st fi L=3):=η45 (by unfold q0N;rw[if_neg hno,if_pos (.inl h3)])
  have hd:decide ((32:Int)<(st.length:Int))=true:=decide_eq_true (by omega);clear h1 h2 hLn hno hlen h3;go_enter Tryz.func40,Tryz.ntmps40;go_wp2_with fail;go_ret;exact ⟨by rw[HN.out];rfl,HX.out⟩
 have hd3:decide ((32:Int)<(st.length:Int))=false:=decide_eq_false (by omega);by_cases h4:8<n
 ·have HN:Hid (q0N st fi L=3):=η45 (by unfold q0N;rw[if_neg hno,if_pos (.inr (by omega))])
  have hd:decide ((8:Int)<(n:Int))=true:=decide_eq_true (by omega);clear h1 h2 hLn hno hlen h4;go_enter Tryz.func40,Tryz.ntmps40;go_wp2_with fail;go_ret;exact ⟨by rw[HN.out];rfl,HX.out⟩
 have hno2:¬(32<st.length∨8<L.length):=by omega
 have hd4:decide ((8:Int)<(n:Int))=false:=decide_eq_false (by omega);have q0:IntKind.i64.wrap (1073741824-(n:Int))=1073741824-(n:Int):=by rw[IntKind.wrap_i64];omega
 by_cases h5:fi<0∨1073741824-(n:Int)<fi
 ·have HN:Hid (q0N st fi L=2):=η45 (by unfold q0N;rw[if_neg hno,if_neg hno2,if_pos (by rw[hlen];exact h5)])
  have hd5:decide (fi<0)=true∨(decide (fi<0)=false∧decide (1073741824-(n:Int)<fi)=true):=by
   by_cases h:fi<0
   ·exact .inl (decide_eq_true h)
   ·exact .inr ⟨decide_eq_false h,decide_eq_true (by omega)⟩
  clear h1 h2 hLn hno hno2 hlen h5 h3 h4;rcases hd5 with hd5|⟨hd5,hd6⟩
  all_goals
   go_enter Tryz.func40,Tryz.ntmps40;go_wp2_with fail;go_ret;exact ⟨by rw[HN.out];rfl,HX.out⟩
 have hd5:decide (fi<0)=false:=decide_eq_false (by omega);have hd6:decide (1073741824-(n:Int)<fi)=false:=decide_eq_false (by omega);have HN:Hid (q0N st fi L=q5s L):=η45 (by unfold q0N;rw[if_neg hno,if_neg hno2,if_neg (by rw[hlen];exact h5)]);have HLe:=η45 hlen;clear h1 h2 hLn hno hno2 hlen h5 h3;go_enter Tryz.func40,Tryz.ntmps40;go_wp2_with fail
 go_loopw [3] (fun i W=> ∃k:Nat,k≤n∧i= .int .i64 (k:Int)∧q5s (L.take k)=0∧Ext (w.alloc (.cells #[.string ⟨st.toArray⟩,.int .i64 fi,.slice ao n cap] 96)) W) (fun i _=>n-(intOf i).toNat)
 case atStart=>exact ⟨0,Nat.zero_le _,rfl,rfl,Ext.refl _⟩
 case round=>
  obtain ⟨k,hk,rfl,h0,hb⟩:=hrel;have HBx:=η45 hb;have hbk:=HBk.out.ext hb;have d2:=hbk.cell 2;by_cases hlt:k<n
  ·have hd7:decide ((k:Int)<(n:Int))=true:=decide_eq_true (by omega)
   have hki:(k:Int)<(n:Int):=by omega
   obtain ⟨b,off,rfl,e0,e1,e2⟩:=(HE.out.ext (HX.out.trans hb)).at hlt;have hkL:k<L.length:=by rw[HLe.out];exact hlt
   have hT:L.take (k+1)=L.take k++[L.getD k ev0]:=by
    rw[List.take_succ_eq_append_getElem hkL];simp[List.getD,List.getElem?_eq_getElem hkL]
   have hS:=q6x (L.take k) (L.getD k ev0) h0;rw[←hT] at hS;have HS:=η45 hS;have HSk:=η45 (q7u L k hkL h0);have hmem:L.getD k ev0∈L:=by rw[List.getD_eq_getElem?_getD,List.getElem?_eq_getElem hkL];exact List.getElem_mem hkL
   obtain ⟨m1,m2⟩:=HL.out _ hmem;have q1:IntKind.i64.wrap ((k:Int)+1)=(k:Int)+1:=by rw[IntKind.wrap_i64];omega
   generalize L.getD k ev0=y at*;obtain ⟨y1,y2,y3⟩:=y;have HCk:=η45 (fun W=>q6N y1 y2 .f64 y3 W m1 m2);simp only at e0 e1 e2;clear hT hkL h0 hS hmem m1 m2 hb hbk;go_wp2_with fail;refine (HCk.out _).mono ?_;rintro e w1 ⟨rfl,hx⟩;have HX2:=η45 (HBx.out.trans hx);clear hx;by_cases hc:q0X y1 y2=0
   ·have HS':Hid (q5s (L.take (k+1))=0):=η45 (by rw[HS.out];exact hc)
    rw[hc];go_wp2_with fail
    go_roundw
    case rel=>exact ⟨k+1,by omega,by go_num,HS'.out,HX2.out⟩
    case measure=>simp[intOf];omega
   ·have HN2:Hid (q5s L=q0X y1 y2):=η45 (by rw[HSk.out,if_neg hc])
    have hcn:(q0X y1 y2 !=0)=true:=by simpa using hc
    clear hc;go_wp2_with fail
    (try rw[Exit.noGoto_ret])
    go_ret;exact ⟨by rw[HN.out,HN2.out];rfl,HX.out.trans HX2.out⟩
  ·obtain rfl:k=n:=by omega
   have hd7:decide ((k:Int)<(k:Int))=false:=decide_eq_false (by omega);have HN2:Hid (q5s L=0):=η45 (by rw[←HLe.out,List.take_length] at h0;exact h0);clear h0 hb hbk;go_wp2_with fail;go_ret;exact ⟨by rw[HN.out,HN2.out];rfl,HX.out.trans HBx.out⟩
theorem z5t {e:Ev} (h:z5r e):(evB e).length≤300:=by
 obtain ⟨_,h3,h4⟩:=q1k h.1;unfold evB;rw[q1W (by omega),q1W (by omega)];simp[q0H];omega
end
section
open Go.RowKit
theorem DkK.rebase {E:Oth} {wa wb w:World} {g:Nat} {c s:Int} {C:Cks} {K:Nat→Prop} (h:DkK E wb w g c s C K) (k:Ext wa wb):DkK E wa w g c s C K:=by
 obtain ⟨F,σ,h1,h2⟩:=h;have hs:=k.size;exact ⟨F,σ,⟨h1.d,fun i hi=>by have:=h1.bF i hi;omega,k.trans h1.ext,h1.k⟩,h2⟩
theorem DkK.base {E:Oth} {wb w:World} {g:Nat} {c s:Int} {C:Cks} {K:Nat→Prop} (h:DkK E wb w g c s C K):Ext wb w:=by
 obtain ⟨F,σ,h1,h2⟩:=h;exact h1.ext
theorem Blk.rd {w:World} {b:Nat} {t:TypeId} {cs:Array Value} (h:Blk w b t cs):Rd w (some ⟨b,0,none⟩) cs.toList:=fun j u hj=>⟨b,0,rfl,by rw[Nat.zero_add,h.cell j];simpa using hj⟩
theorem Blk.evs {w:World} {b:Nat} {t:TypeId} {L:List Ev} (h:Blk w b t (q5A L).toArray) {k:Nat} (hk:k≤L.length) (hl:L.length≤1000000):Evs w (some ⟨b,0,none⟩) k L.length (L.take k):=by
 refine ⟨by rw[List.length_take];omega,hk,by omega,(fun e=>by cases e),?_⟩;have h1:=h.rd.take (k*3);have e:(q5A L).take (k*3)=q5A (L.take k):=by
  conv=>lhs;rw[←List.take_append_drop k L,q4y]
  exact List.take_left' (by rw[q7e,List.length_take];omega)
 rw[←e]
 simpa using h1
theorem q5r {w:World} {B:Nat} {e:TypeId} {ao:Option Addr} {n cp:Nat} {L:List To} (h:w.ownsRow B e 5 (.slice ao n cp) L.length (q5E L)):Tos w ao n cp L∧n=L.length:=by
 obtain ⟨a,c,e1,h2⟩:=Tos.of_own (Own.of_row h)
 cases e1;exact ⟨h2,rfl⟩
abbrev evA :Ev:=⟨[97],[],0⟩
abbrev z4F :Ev:=⟨[98],[],0⟩
abbrev st1 :Bt:=⟨[115],0,[evA,z4F]⟩
theorem q5d {L:List Ev} (h: ∀e∈L,e.ty.length≤300∧e.da.length≤300):q1A L:=fun e he=>by have:=h e he;omega
end
section
open Go.RowKit
section
variable {wb w W W1 W2:World} {g gs rate u n:Nat} {sd c s:Int} {bs:List Bt} {K K':Nat→Prop}
theorem SK.row0 {m m1 sz base:Nat} {vq v2:Value} {ys ys1:List Value} {ti:TypeId} (h:SK wb W g gs rate sd c s u n bs (fun i=>K i∨vq.ownBlock=some i)) (hb:wb.heap.size≤base) (hq:W.ownsRow base ti sz vq m ys)
  (h2:W2.ownsRow base ti sz v2 m1 ys1) (g2:W.grownBy W2 vq.ownBlock) (a2:v2.ownBlock=vq.ownBlock∨v2.ownBlock=some W.heap.size) (hd: ∀i,K i→vq.ownBlock≠some i):
  SK wb W2 g gs rate sd c s u n bs (fun i=>K i∨v2.ownBlock=some i)∧Stay K W W2∧ ∀i,K i→v2.ownBlock≠some i:=by
 have s2:=g2.size;have hqb: ∀i,vq.ownBlock=some i→base≤i∧i<W.heap.size:=q0V hq;have e2: ∀i,i<W.heap.size→vq.ownBlock≠some i→W2.heap[i]? =W.heap[i]? :=fun i hi hn=>g2.block i hi fun e=>hn e.symm
 have hx0:=h.base;have hx2:Ext wb W2:=Below.grown hx0 g2 hx0.size fun k hk=>by have:=(hqb k hk).1;omega
 refine ⟨h.sideM s2 hx2 (fun i hi hn=>e2 i hi fun e=>hn (.inr e)) fun i hi=>?_,fun i hi=>e2 i (h.klt i (.inl hi)) (hd i hi),fun i hi e=>?_⟩
 ·rcases hi with hi|hi
  ·exact .inl (.inl hi)
  ·rcases a2 with k|k
   ·exact .inl (.inr (k.symm.trans hi))
   ·have hlt:=(q0V h2 i hi).2
    rw[k] at hi
    cases hi
    right;omega
 ·rcases a2 with k|k
  ·exact hd i hi (k.symm.trans e)
  ·rw[k] at e
   cases e;have:=h.klt _ (.inl hi);omega
theorem SK.row1 {m m1 sz base:Nat} {vq v2:Value} {ys ys1:List Value} {l2:Obj} {ti:TypeId} (h:SK wb W g gs rate sd c s u n bs (fun i=>K i∨vq.ownBlock=some i)) (hb:wb.heap.size≤base) (hq:W.ownsRow base ti sz vq m ys)
  (h2:W2.ownsRow base ti sz v2 m1 ys1) (g2:(W.alloc l2).grownBy W2 vq.ownBlock) (a2:v2.ownBlock=vq.ownBlock∨v2.ownBlock=some (W.alloc l2).heap.size) (hd: ∀i,K i→vq.ownBlock≠some i):
  SK wb W2 g gs rate sd c s u n bs (fun i=>K i∨v2.ownBlock=some i)∧Stay K W W2∧ ∀i,K i→v2.ownBlock≠some i:=by
 obtain ⟨h1,h3,h4⟩:=(h.grow (q0B W l2)).row0 hb (q0J hq (q0B W l2)) h2 g2 a2 hd;exact ⟨h1,fun i hi=>(h3 i hi).trans ((q0B W l2).block i (h.klt i (.inl hi))),h4⟩
end
theorem z6V {α:Type} (p:α→Bool) (A:List α) (d:α) {k:Nat} (h:k<A.length):(A.take (k+1)).filter p=(A.take k).filter p++if p (A.getD k d)=true then [A.getD k d] else []:=by
 rw[List.take_succ_eq_append_getElem h,List.filter_append,List.getD_eq_getElem?_getD,List.getElem?_eq_getElem h];simp only[Option.getD_some];by_cases hp:p A[k]=true
 ·rw[if_pos hp,List.filter_cons_of_pos hp,List.filter_nil]
 ·rw[if_neg hp,List.filter_cons_of_neg hp,List.filter_nil]
end
section
open Go.RowKit
structure MoI (W:World) (mb base:Nat) (vL vM:Value) (L:List To) (ms:List Value):Prop where
 blk: ∃su:Int,Blk W mb 38 #[vL,vM,.int .i64 su]
 rowL:W.ownsRow base 87 5 vL L.length (q5E L)
 rowM:W.ownsRow base 3 1 vM ms.length ms
def MoB (mb:Nat) (vL vM:Value) (i:Nat):Prop:=i=mb∨vL.ownBlock=some i∨vM.ownBlock=some i
theorem MoI.same {W W':World} {mb base:Nat} {vL vM:Value} {L:List To} {ms:List Value} (h:MoI W mb base vL vM L ms) (k: ∀i,MoB mb vL vM i→W'.heap[i]? =W.heap[i]?):MoI W' mb base vL vM L ms:=by
 obtain ⟨su,hb⟩:=h.blk;exact ⟨⟨su,hb.same (k _ (.inl rfl))⟩,q0a h.rowL fun i hi=>k i (.inr (.inl hi)),q0a h.rowM fun i hi=>k i (.inr (.inr hi))⟩
theorem MoI.lt {W:World} {mb base:Nat} {vL vM:Value} {L:List To} {ms:List Value} (h:MoI W mb base vL vM L ms) {i:Nat} (hi:MoB mb vL vM i):i<W.heap.size:=by
 obtain ⟨su,hb⟩:=h.blk;rcases hi with rfl|hi|hi
 ·exact hb.lt
 ·exact (q0V h.rowL i hi).2
 ·exact (q0V h.rowM i hi).2
theorem MoI.ext {W W':World} {mb base:Nat} {vL vM:Value} {L:List To} {ms:List Value} (h:MoI W mb base vL vM L ms) (k:Ext W W'):MoI W' mb base vL vM L ms:=h.same fun i hi=>k.block i (h.lt hi)
theorem z7j {W W2:World} {w0:World} {sz n:Nat} {vq:Value} {xs:List Value} {ti:TypeId} {l2:Obj} (hb:Ext w0 W) (hq:W.ownsRow w0.heap.size ti sz vq n xs)
  (g2:(W.alloc l2).grownBy W2 vq.ownBlock):Ext w0 W2:=
 Below.grown (hb.trans (q0B W l2)) g2 (Nat.le_trans hb.size (q0B W l2).size) fun k hk=>(q0V hq k hk).1
theorem q7H {w:World} {mb base:Nat} {vL vM:Value} {L:List To} {ms:List Value} (h:MoI w mb base vL vM L ms) (s:List UInt8) (hl:L.length≤100000):
  Calls Tryz.prog 41 #[.pointer (some ⟨mb,0,none⟩),.string ⟨s.toArray⟩] w fun e w'=> ∃v,e= .returned v∧w'.ownsRow w.heap.size 87 5 v (L.filter fun t=>decide (t.s=s)).length (q5E (L.filter fun t=>decide (t.s=s)))∧Ext w w':=by
 obtain ⟨la,lc,rfl⟩:=q0G h.rowL;have HM:=η45 h;obtain ⟨n,hn⟩: ∃n,L.length=n:=⟨_,rfl⟩
 have ht:=(q5r h.rowL).1;rw[hn] at ht hl HM;have HT:=η45 ht;have b1:=ht.fits;have b2:=ht.bound;obtain ⟨su,hblk⟩:=h.blk;rw[hn] at hblk;have HBk:=η45 hblk;have HN:=η45 hn;clear h ht hblk hn;go_enter Tryz.func41,Tryz.ntmps41;go_wp2_with fail
 go_loopw [5,6] (fun ov oi W=> ∃(k:Nat) (v:Value) (M:List To),ov=v∧oi= .int .i64 (k:Int)∧k≤n∧Hid ((L.take k).filter (fun t=>decide (t.s=s))=M)∧W.ownsRow w.heap.size 87 5 v M.length (q5E M)∧Ext w W) (fun _ i _=>n-(intOf i).toNat)
 case atStart=>exact ⟨0,_,[],rfl,rfl,Nat.zero_le _,η45 (by simp),⟨rfl,.inl ⟨rfl,rfl⟩⟩,Ext.refl _⟩
 case round=>
  obtain ⟨k,v,M,rfl,rfl,hk,HMm,hrow,hb⟩:=hrel;obtain ⟨oa,oc,rfl⟩:=q0G hrow;have hbk:=HBk.out.ext hb;have k0:=hbk.cell 0;have hMl:M.length≤n:=by rw[←HMm.out];exact Nat.le_trans (List.length_filter_le _ _) (by rw[List.length_take,HN.out];omega)
  by_cases hlt:k<n
  ·have hd:decide ((k:Int)<(n:Int))=true:=decide_eq_true (by omega)
   have hki:(k:Int)<(n:Int):=by omega
   have q1:IntKind.i64.wrap ((k:Int)+1)=(k:Int)+1:=by rw[IntKind.wrap_i64];omega
   obtain ⟨bb,off,rfl,c0,c1,c2,c3,c4⟩:=(HT.out.ext hb).at hlt;have HS:=η45 (z6V (fun t:To=>decide (t.s=s)) L to0 (k:=k) (by rw[HN.out];exact hlt));generalize L.getD k to0=t at*;obtain ⟨ts,tv,⟨ty,da,we⟩⟩:=t;simp only at c0 c1 c2 c3 c4;obtain ⟨no,hno⟩: ∃no,M.length=no:=⟨_,rfl⟩
   have HNo:=η45 hno;have hsf:=q1T;rw[hno] at hrow hMl⊢;have HRw:=η45 hrow;have HB:=η45 hb;have HSz:=η45 hb.size;have HRl:=η45 (show Rd (wr.alloc (.cells #[.string ⟨ts.toArray⟩,.int .i64 tv,.string ⟨ty.toArray⟩,.string ⟨da.toArray⟩,.float .f64 we] 87)) (some ⟨wr.heap.size,0,none⟩) (toc ⟨ts,tv,⟨ty,da,we⟩⟩) from Rd.lit wr #[.string ⟨ts.toArray⟩,.int .i64 tv,.string ⟨ty.toArray⟩,.string ⟨da.toArray⟩,.float .f64 we] 87);have HRw2:=η45 (q0J hrow (q0B wr (.cells #[.string ⟨ts.toArray⟩,.int .i64 tv,.string ⟨ty.toArray⟩,.string ⟨da.toArray⟩,.float .f64 we] 87)));clear hrow hb hbk hno;by_cases hs:ts=s
   ·subst hs
    have e1:(ts==ts)=true:=beq_self_eq_true ts
    go_wp2_with (at_builtin;refine q0M rfl _ _ 35 rfl w.heap.size 87 _ 5 64 Tryz.underlying35 Tryz.infoTo (by decide) (by decide) _ no (q5E M) rfl HRw2.out _ 1 1 (toc ⟨ts,tv,⟨ty,da,we⟩⟩) rfl rfl (fun h=>by cases h) HRl.out (by unfold toc;simp[Value.oneCell']) (by unfold maxLen;omega) (by omega) (by have:=HSz.out;simp;omega) ?_;intro v2 w8 hown hgrow hat;obtain ⟨a2,k2,rfl⟩:=q0G hown;have HO:=η45 hown;have HX:Hid (Ext w w8):=η45 (z7j (w0:=w) (W:=wr) (vq:= .slice oa no oc) HB.out HRw.out hgrow);clear hown hgrow hat)
    go_roundw
    case rel=>
     refine ⟨k+1,_,M++[⟨ts,tv,⟨ty,da,we⟩⟩],rfl,by go_num,by omega,η45 (by rw[HS.out,HMm.out];simp),?_,HX.out⟩;rw[q7t,List.length_append,HNo.out];exact HO.out
    case measure=>simp[intOf];omega
   ·have e1:(ts==s)=false:=beq_eq_false_iff_ne.2 hs
    go_wp2_with fail
    go_roundw
    case rel=>exact ⟨k+1,_,M,rfl,by go_num,by omega,η45 (by rw[HS.out,HMm.out];simp[hs]),by rw[HNo.out];exact HRw.out,HB.out⟩
    case measure=>simp[intOf];omega
  ·obtain rfl:k=n:=by omega
   have hd:decide ((k:Int)<(k:Int))=false:=decide_eq_false (by omega);have hMM:M=L.filter fun t=>decide (t.s=s):=by rw[←HMm.out,List.take_of_length_le (by rw[HN.out];exact Nat.le_refl _)]
   have HRw:=η45 hrow;have HB:=η45 hb;have HMM:=η45 hMM;clear hrow hb hbk hMM hMl;go_wp2_with fail;go_ret;exact ⟨_,rfl,by rw[←HMM.out];exact HRw.out,HB.out⟩
end
section
open Go.RowKit
theorem z5P {b:Bt} {ao:Option Addr} {n cap:Nat} (w:World) (hx:Evs w ao n cap b.ev) (hok:z1o b):
  Calls Tryz.prog 42 #[.agg #[.string ⟨b.st.toArray⟩,.int .i64 (b.fi:Int),.slice ao n cap]] w fun e w'=> ∃S:List UInt8,e= .returned (.tuple #[.string ⟨S.toArray⟩,.int .i64 0])∧Ext w w':=by
 obtain ⟨p1,p2,p3,p4,p5,p6,p7⟩:=q0j hok.1;have hev: ∀e∈b.ev,z5r e:=fun e he=>⟨q5R p7 e he,hok.2 e he⟩
 have hsh:q1A b.ev:=fun e he=>by
  obtain ⟨_,h1,h2⟩:=q1k (hev e he).1;exact ⟨by omega,by omega⟩
 have hlen:=hx.len;obtain ⟨st,fi,L⟩:=b;simp only at p1 p2 p3 p4 p5 p6 p7 hev hsh hlen hx;have b1:=hx.fits;have b2:=hx.bound;have hc0:q0N st (fi:Int) L=0:=hok.1;have HC:=η45 (fun W (h:Evs W ao n cap L)=>q7K st (fi:Int) W h (by omega) hsh);rw[hc0] at HC;have HT:=η45 (fun W=>q7g st W (by omega));have HP8:=η45 (fun W=>z3V (fi:Int) 8 8 W rfl (by omega) (by omega) (by omega) (by omega));rw[Int.toNat_natCast] at HP8;have l1:(q1d st).length≤50:=by rw[q1W (by omega)];simp[q0H];omega
 have l8:(be 8 fi).length≤8:=by rw[q0H];omega
 have HOk:=η45 hev;have HLn:=η45 hlen;have HEv:=η45 hx;have qf:IntKind.u64.wrap (fi:Int)=(fi:Int):=by rw[IntKind.wrap_u64];omega
 have qn:IntKind.u8.wrap (n:Int)=(n:Int):=by unfold IntKind.wrap;simp[IntKind.bits];omega
 have hn9:n≤8:=by omega
 have HX:=η45 (q0B w (.cells #[.string ⟨st.toArray⟩,.int .i64 (fi:Int),.slice ao n cap] 96));have HB0:=η45 (Blk.new w 96 #[.string ⟨st.toArray⟩,.int .i64 (fi:Int),.slice ao n cap]);have hbk:=HB0.out;have k0:=hbk.cell 0;have k1:=hbk.cell 1;have k2:=hbk.cell 2;generalize q1d st=A at*;generalize be 8 fi=D at*;clear hbk hok p1 p2 p3 p4 p5 p6 p7 hev hsh hlen hx hc0;go_enter Tryz.func42,Tryz.ntmps42;go_wp2_with fail;refine (HC.out _ (HEv.out.ext HX.out)).mono ?_;rintro e w1 ⟨rfl,hx⟩;have HX1:=η45 (HX.out.trans hx);have hb1:=HB0.out.ext hx;generalize w.heap.size=q at*;have c0:w1.cell? ⟨q,0,none⟩=some (.string ⟨st.toArray⟩):=hb1.cell 0;have c1:w1.cell? ⟨q,1,none⟩=some (.int .i64 (fi:Int)):=hb1.cell 1;have c2:w1.cell? ⟨q,2,none⟩=some (.slice ao n cap):=hb1.cell 2;have u0:=q0D c0;have u1:=q0D c1;have u2:=q0D c2;have HB1:=η45 hb1;have q1:¬(9223372036854775807<A.length+D.length):=by omega
 clear hx hb1 k0 k1 k2
 go_upto_region 4 with fail
 have d0:=q0A (Ext.refl _).drew c0;have d1:=q0A (Ext.refl _).drew c1;have d2:=q0A (Ext.refl _).drew c2;have HSx:=η45 (fun W (k:Ext w1 W)=>(show W.cell? ⟨q,0,none⟩=some (.string ⟨st.toArray⟩)∧W.cell? ⟨q,1,none⟩=some (.int .i64 (fi:Int))∧W.cell? ⟨q,2,none⟩=some (.slice ao n cap) from ⟨q0A k c0,q0A k c1,q0A k c2⟩));have hby:(n:Int)=((UInt8.ofNat n).toNat:Int):=by rw[UInt8.toNat_ofNat'];omega
 have hcv:=fun W=>q8W (P:=Tryz.prog) W 154 9 5 (n:Int) _ Tryz.underlying154 Tryz.underlying5 Tryz.underlying9 hby
 have HCv:Hid (∀W0 W,Ext (World.alloc W0 (.cells #[.int .u8 (n:Int)] 5)) W→(convert 154 9 (.slice (some ⟨W0.heap.size,0,none⟩) 1 1)).run Tryz.prog W= .ok (.string ⟨#[UInt8.ofNat n]⟩) W):=η45 fun W0 W k=>by
  rw[hby] at k;exact q2b (l:=[UInt8.ofNat n]) W 154 9 5 Tryz.underlying154 Tryz.underlying5 Tryz.underlying9 rfl ((Rd.lit W0 #[.int .u8 ((UInt8.ofNat n).toNat:Int)] 5).ext k)
 have hcvd:=fun W0:World=>HCv.out W0 _ ((Ext.refl (World.alloc W0 (.cells #[.int .u8 (n:Int)] 5))).drew)
 have q2:¬(9223372036854775807<A.length+D.length+1):=by omega
 have q3:¬(9223372036854775807<(A++D).length+1):=by rw[List.length_append];omega
 clear hby
 go_cut [5] from 12 to 26 (fun s W=> ∃S:List UInt8,s= .string ⟨S.toArray⟩∧S.length≤100∧Ext w1 W)
 case first =>
  go_region_held3 (fun W=>(W.cell? ⟨q,0,none⟩=some (.string ⟨st.toArray⟩)∧W.cell? ⟨q,1,none⟩=some (.int .i64 (fi:Int))∧W.cell? ⟨q,2,none⟩=some (.slice ao n cap))∧Hid (Ext w1 W))
   (first|assumption|exact ⟨HSx.out _ HXa.out,HXa⟩|exact (fun h=>⟨HSx.out _ h,η45 h⟩) (Ext.trans (Hid.out (And.right (by assumption))) (q0B _ _))|exact (fun h=>⟨HSx.out _ h,η45 h⟩) ((Ext.refl w1).drew.trans (q0B _ _))|exact ⟨⟨d0,d1,d2⟩,η45 (Ext.refl _).drew⟩)
   (first |(go_at_call 82;refine (HT.out _).mono ?_;rintro e wa ⟨rfl,hxa⟩;have HXa:=η45 (Ext.trans (Hid.out (And.right (a:=_) (by assumption))) hxa);(try have HXc:=η45 (show Ext (World.alloc _ (.cells #[.int .u8 (n:Int)] 5)) _ from hxa));(try have HXc:=η45 (Ext.trans ((Ext.refl (World.alloc _ (.cells #[.int .u8 (n:Int)] 5))).drew) hxa));(try have HXc:=η45 (Ext.trans HXc.out hxa));(try have hcq:=HCv.out _ _ HXc.out);(try rw[show (World.drew w1).heap.size=w1.heap.size from rfl] at hcq);clear hxa)|(go_at_call 83;refine (HP8.out _).mono ?_;rintro e wa ⟨rfl,hxa⟩;have HXa:=η45 (Ext.trans (Hid.out (And.right (a:=_) (by assumption))) hxa);(try have HXc:=η45 (show Ext (World.alloc _ (.cells #[.int .u8 (n:Int)] 5)) _ from hxa));(try have HXc:=η45 (Ext.trans ((Ext.refl (World.alloc _ (.cells #[.int .u8 (n:Int)] 5))).drew) hxa));(try have HXc:=η45 (Ext.trans HXc.out hxa));(try have hcq:=HCv.out _ _ HXc.out);(try rw[show (World.drew w1).heap.size=w1.heap.size from rfl] at hcq);clear hxa))
  all_goals
   go_wp2_with fail
   go_meet
   case rel=>exact ⟨(A++D)++[UInt8.ofNat n],by first|rfl|(rw[q2A,q2A];simp),by simp;omega,Hid.out (And.right (by assumption))⟩
 case rest=>
 obtain ⟨S,rfl,hSl,hcx⟩:=hcut;have HXc:=η45 hcx;have hb2:=HB1.out.ext hcx;clear hcx d0 d1 d2 c0 c1 c2 u0 u1 u2 HSx;go_wp2_with fail
 go_loopw [5,6] (fun sv iv W=> ∃(k:Nat) (T:List UInt8),k≤n∧iv= .int .i64 (k:Int)∧sv= .string ⟨T.toArray⟩∧T.length≤100+300*k∧Ext w1 W) (fun _ i _=>n-(intOf i).toNat)
 case atStart=>exact ⟨0,S,Nat.zero_le _,rfl,rfl,by omega,HXc.out⟩
 case round=>
  obtain ⟨k,T,hk,rfl,rfl,hTl,hb⟩:=hrel;have HBx:=η45 hb;have hbk:=HB1.out.ext hb;have d0:=hbk.cell 0;have d1:=hbk.cell 1;have d2:=hbk.cell 2;by_cases hlt:k<n
  ·have hd7:decide ((k:Int)<(n:Int))=true:=decide_eq_true (by omega)
   have hki:(k:Int)<(n:Int):=by omega
   obtain ⟨b,off,rfl,c0,c1,c2⟩:=(HEv.out.ext (HX1.out.trans hb)).at hlt;have hkL:k<L.length:=by rw[HLn.out];exact hlt
   have hmem:L.getD k ev0∈L:=by rw[List.getD_eq_getElem?_getD,List.getElem?_eq_getElem hkL];exact List.getElem_mem hkL
   have he:=HOk.out _ hmem;have q4:IntKind.i64.wrap ((k:Int)+1)=(k:Int)+1:=by rw[IntKind.wrap_i64];omega
   generalize L.getD k ev0=y at*;obtain ⟨y1,y2,y3⟩:=y;have hs:=z5t he;have HCk:Hid (∀W,Calls Tryz.prog 84 #[.agg #[.string ⟨y1.toArray⟩,.string ⟨y2.toArray⟩,.float .f64 y3]] W fun r w'=>r= .returned (.string ⟨(evB ⟨y1,y2,y3⟩).toArray⟩)∧Ext W w'):=η45 fun W=>z1X ⟨y1,y2,y3⟩ W he
   obtain ⟨Y,hY⟩: ∃Y,evB ⟨y1,y2,y3⟩=Y:=⟨_,rfl⟩
   rw[hY] at HCk hs;simp only at c0 c1 c2;have q5:¬(9223372036854775807<T.length+Y.length):=by omega
   clear hkL hmem hb he hY hbk;go_wp2_with fail;refine (HCk.out _).mono ?_;rintro e w3 ⟨rfl,hx⟩;have HX3:=η45 (HBx.out.trans hx);clear hx;go_wp2_with fail
   go_roundw
   case rel=>exact ⟨k+1,T++Y,by omega,by go_num,(by first|rfl|(rw[q2A])),by rw[List.length_append];omega,HX3.out⟩
   case measure=>simp[intOf];omega
  ·obtain rfl:k=n:=by omega
   have hd7:decide ((k:Int)<(k:Int))=false:=decide_eq_false (by omega);clear hb hbk;go_wp2_with fail;go_ret2;exact ⟨T,rfl,HX1.out.trans HBx.out⟩
end
section
open Go.RowKit
theorem z6z {w:World} {mb base:Nat} {vL vM:Value} {bs:List Bt} {ms:List Value} (h:MoI w mb base vL vM (tos bs) ms) (hok:okBs bs) (str:List UInt8) (hs:str.length≤4611686018427387903) (hl:(tos bs).length≤100000):
  Calls Tryz.prog 33 #[.pointer (some ⟨mb,0,none⟩),.string ⟨str.toArray⟩] w fun e w'=>e= .returned (.tuple #[.int .i64 (q3f bs str).1,.int .i64 (q3f bs str).2])∧Ext w w':=by
 have HS:=η45 (z1Y str w (by omega));have HM:=η45 (fun W (k:Ext w W)=>q7H (h.ext k) str hl);have hN:((tos bs).filter fun t=>decide (t.s=str)).length=(q0T bs str).length:=by rw[q3o hok,q4u]
 have hle:=List.length_filter_le (fun t:To=>decide (t.s=str)) (tos bs);generalize ((tos bs).filter fun t=>decide (t.s=str))=R at*;have HL:Hid (q3f bs str=if q1r str=true then ((R.length:Int)-1,0) else (-1,2)):=η45 (by unfold q3f;rw[hN]);obtain ⟨z,hz⟩: ∃z,q1r str=z:=⟨_,rfl⟩
 rw[hz] at HS HL;obtain ⟨n,hn⟩: ∃n,R.length=n:=⟨_,rfl⟩
 rw[hn] at HL hle HM;have q1:IntKind.i64.wrap ((n:Int)-1)=(n:Int)-1:=by rw[IntKind.wrap_i64];omega
 clear h hN hz hok
 cases z with
 | false=>
  have HL2:Hid (q3f bs str=(-1,2)):=η45 (by rw[HL.out];rfl);go_enter Tryz.func33,Tryz.ntmps33;go_wp2_with fail;refine HS.out.mono ?_;rintro e w1 ⟨rfl,hx⟩;have HX:=η45 hx;clear hx;go_wp2_with fail;go_ret2;exact ⟨by rw[HL2.out];rfl,HX.out⟩
 | true=>
  have HL2:Hid (q3f bs str=((n:Int)-1,0)):=η45 (by rw[HL.out];rfl);go_enter Tryz.func33,Tryz.ntmps33;go_wp2_with fail;refine HS.out.mono ?_;rintro e w1 ⟨rfl,hx⟩;have HX:=η45 hx;clear hx;go_wp2_with fail;refine (HM.out _ HX.out).mono ?_;rintro e w2 ⟨v,rfl,hrow,hx⟩;obtain ⟨va,vc,rfl⟩:=q0G hrow;have HX2:=η45 (HX.out.trans hx);clear hx hrow;go_wp2_with fail;go_ret2;exact ⟨by rw[HL2.out];rfl,HX2.out⟩
theorem z0Z {w:World} {mb base:Nat} {vL vM:Value} {L:List To} {ms:List Value} (h:MoI w mb base vL vM L ms) (hm:ms.length≤100000):
  Calls Tryz.prog 47 #[.pointer (some ⟨mb,0,none⟩)] w fun e w'=>e= .returned (.tuple #[])∧w'.heap.size=w.heap.size∧(∀i,i≠mb→w'.heap[i]? =w.heap[i]?)∧(∀w0:World,Below w0.heap.size w0 w→w0.heap.size≤mb→Below w0.heap.size w0 w')∧ ∃su:Int,Blk w' mb 38 #[vL,vM,.int .i64 su]:=by
 obtain ⟨ma,mc,rfl⟩:=q0G h.rowM;obtain ⟨su,hb⟩:=h.blk;have k1:=hb.cell 1;have k2:=hb.cell 2;have f2:=hb.free 2;have HB:=η45 hb;obtain ⟨n,hn⟩: ∃n,ms.length=n:=⟨_,rfl⟩
 rw[hn] at k1 HB hm⊢;clear h hb hn;go_enter Tryz.func47,Tryz.ntmps47;go_wp2_with fail
 go_end0
 exact ⟨rfl,by rw[World.size_setCell],fun i hi=>heap_setCell_other w ⟨mb,2,none⟩ i _ hi,fun w0 k1 k2=>Below.setCell k1 k2 _,_,HB.out.set 2 _⟩
end
section
open Go.RowKit
def Ios (w W:World):Prop:=W.os=w.os∧W.tape=w.tape∧W.output=w.output
theorem Ios.trans {a b c:World} (h:Ios a b) (k:Ios b c):Ios a c:=⟨k.1.trans h.1,k.2.1.trans h.2.1,k.2.2.trans h.2.2⟩
theorem Ios.of_ext {a b:World} (h:Ext a b):Ios a b:=⟨h.os,h.tape,h.output⟩
def MoAppR (w:World) (mb base:Nat) (vL vM:Value) (bs:List Bt) (m:Nat) (str:List UInt8) (L:List Ev) (z:Int) (e:Ending) (w':World):Prop:=
 ∃ vL' vM' ms' bs' x y,e= .returned (.tuple #[.int .i64 x,.int .i64 y])∧MoI w' mb base vL' vM' (tos bs') ms'∧ms'.length≤m+1∧w.heap.size≤w'.heap.size∧(∀i,i<w.heap.size→¬MoB mb vL vM i→w'.heap[i]? =w.heap[i]?)∧(∀i,MoB mb vL' vM' i→MoB mb vL vM i∨w.heap.size≤i)∧
  ((z≠0∧x=0∧y=z∧bs'=bs)∨(z=0∧x=((q0T bs str).length:Int)∧y=0∧bs'=bs++[⟨str,(q0T bs str).length,L⟩]))∧Ios w w'
theorem MoAppR.no {w w':World} {mb base:Nat} {vL vM:Value} {bs:List Bt} {ms:List Value} {str:List UInt8} {L:List Ev} {z:Int} (h:MoI w mb base vL vM (tos bs) ms) (hz:z≠0) (k:Ext w w'):MoAppR w mb base vL vM bs ms.length str L z (.returned (.tuple #[.int .i64 0,.int .i64 z])) w':=
 ⟨vL,vM,ms,bs,0,z,rfl,h.ext k,Nat.le_succ _,k.size,fun i hi _=>k.block i hi,fun i hi=> .inl hi,.inl ⟨hz,rfl,rfl,rfl⟩,Ios.of_ext k⟩
structure MoMid (w:World) (mb base:Nat) (vL vM:Value) (T:List To) (ms:List Value) (v2:Value) (W:World):Prop where
 mo:MoI W mb base v2 vM T ms
 size:w.heap.size≤W.heap.size
 off: ∀i,i<w.heap.size→¬MoB mb vL vM i→W.heap[i]? =w.heap[i]?
 grew: ∀i,v2.ownBlock=some i→vL.ownBlock=some i∨w.heap.size≤i
 ios:Ios w W
theorem MoMid.start {w w3:World} {mb base:Nat} {vL vM:Value} {T T':List To} {ms:List Value} (h:MoI w mb base vL vM T ms) (k:Ext w w3) (e:T'=T):MoMid w mb base vL vM T' ms vL w3:=by
 subst e;exact ⟨h.ext k,k.size,fun i hi _=>k.block i hi,fun i hi=> .inl hi,Ios.of_ext k⟩
theorem z3s {W:World} {B B':Nat} {e e':TypeId} {sz sz':Nat} {v v':Value} {n n':Nat} {xs xs':List Value} (h:W.ownsRow B e sz v n xs) (h':W.ownsRow B' e' sz' v' n' xs') (hne:e≠e'): ∀i,v.ownBlock=some i→v'.ownBlock≠some i:=fun i hi hi'=>by
 obtain ⟨cur,hc⟩:=q3D h hi;obtain ⟨cur',hc'⟩:=q3D h' hi';rw[hc] at hc'
 cases hc';exact hne rfl
theorem MoI.apart {W:World} {mb base:Nat} {vL vM:Value} {L:List To} {ms:List Value} (h:MoI W mb base vL vM L ms):vL.ownBlock≠some mb∧vM.ownBlock≠some mb∧ ∀i,vL.ownBlock=some i→vM.ownBlock≠some i:=by
 obtain ⟨su,hb⟩:=h.blk;exact ⟨hb.apart h.rowL (by decide),hb.apart h.rowM (by decide),z3s h.rowL h.rowM (by decide)⟩
theorem MoMid.told {w W Wd W8:World} {mb base:Nat} {vL vM v2 v3:Value} {T:List To} {ms:List Value} {t:To} {lit:Obj} (hm:MoMid w mb base vL vM T ms v2 W) (hmw:mb<w.heap.size) (hWd:Wd.heap=W.heap) (hWi:Ios W Wd)
  (hown:W8.ownsRow base 87 5 v3 (T.length+1) (q5E T++toc t)) (hg:(Wd.alloc lit).grownBy W8 v2.ownBlock) (hat:v3.ownBlock=v2.ownBlock∨v3.ownBlock=some (Wd.alloc lit).heap.size):
  MoMid w mb base vL vM (T++[t]) ms v3 (W8.setCell ⟨mb,0,none⟩ v3)∧(∀i,i<W.heap.size→v2.ownBlock≠some i→W8.heap[i]? =W.heap[i]?):=by
 obtain ⟨su,hb⟩:=hm.mo.blk;obtain ⟨a1,a2,a3⟩:=hm.mo.apart;have hsz:(Wd.alloc lit).heap.size=W.heap.size+1:=by rw[World.size_alloc,hWd]
 have hold: ∀i,i<W.heap.size→v2.ownBlock≠some i→W8.heap[i]? =W.heap[i]? :=fun i hi hn=>by
  rw[hg.block i (by omega) (fun e=>hn e.symm),(q0B Wd lit).block i (by rw[hWd];exact hi),hWd]
 have hlm:mb<W.heap.size:=hb.lt;have h3:v3.ownBlock≠some mb:=fun e=>by
  rcases hat with h|h
  ·exact a1 (h.symm.trans e)
  ·rw[h,hsz] at e;cases e;omega
 have h8:W.heap.size+1≤W8.heap.size:=by rw[←hsz];exact hg.size
 refine ⟨⟨⟨⟨su,(hb.same (hold mb hlm a1)).set 0 v3⟩,?_,?_⟩,?_,fun i hi hn=>?_,fun i hi=>?_,hm.ios.trans (hWi.trans ⟨hg.os,hg.tape,hg.output⟩)⟩,hold⟩
 ·have:=q0W hown (a:=⟨mb,0,none⟩) v3 h3
  rw[q7o,List.length_append,List.length_singleton]
  simpa [q5E] using this
 ·exact q0W (q0a hm.mo.rowM fun i hi=>hold i (q0V hm.mo.rowM i hi).2 fun e=>a3 i e hi) v3 a2
 ·rw[World.size_setCell];have:=hm.size;omega
 ·rw[heap_setCell_other W8 ⟨mb,0,none⟩ i v3 (fun e=>hn (.inl e)),hold i (by have:=hm.size;omega) (fun e=>?_),hm.off i hi hn]
  rcases hm.grew i e with h|h
  ·exact hn (.inr (.inl h))
  ·omega
 ·rcases hat with h|h
  ·exact hm.grew i (h.symm.trans hi)
  ·rw[h,hsz] at hi;cases hi;have:=hm.size;exact .inr (by omega)
theorem MoMid.many {w W W8:World} {mb base:Nat} {vL vM v2 v3:Value} {T:List To} {ms:List Value} {c:Value} {lit:Obj} (hm:MoMid w mb base vL vM T ms v2 W) (hmw:mb<w.heap.size)
  (hown:W8.ownsRow base 3 1 v3 (ms.length+1) (ms++[c])) (hg:(W.alloc lit).grownBy W8 vM.ownBlock) (hat:v3.ownBlock=vM.ownBlock∨v3.ownBlock=some (W.alloc lit).heap.size):
  MoI (W8.setCell ⟨mb,1,none⟩ v3) mb base v2 v3 T (ms++[c])∧w.heap.size≤(W8.setCell ⟨mb,1,none⟩ v3).heap.size∧(∀i,i<w.heap.size→¬MoB mb vL vM i→(W8.setCell ⟨mb,1,none⟩ v3).heap[i]? =w.heap[i]?)∧
   (∀i,MoB mb v2 v3 i→MoB mb vL vM i∨w.heap.size≤i)∧(∀i,i<W.heap.size→vM.ownBlock≠some i→W8.heap[i]? =W.heap[i]?)∧Ios w (W8.setCell ⟨mb,1,none⟩ v3):=by
 obtain ⟨su,hb⟩:=hm.mo.blk;obtain ⟨a1,a2,a3⟩:=hm.mo.apart;have hsz:(W.alloc lit).heap.size=W.heap.size+1:=by rw[World.size_alloc]
 have hold: ∀i,i<W.heap.size→vM.ownBlock≠some i→W8.heap[i]? =W.heap[i]? :=fun i hi hn=>by
  rw[hg.block i (by omega) (fun e=>hn e.symm),(q0B W lit).block i hi]
 have hlm:mb<W.heap.size:=hb.lt;have h3:v3.ownBlock≠some mb:=fun e=>by
  rcases hat with h|h
  ·exact a2 (h.symm.trans e)
  ·rw[h,hsz] at e;cases e;omega
 have h8:W.heap.size+1≤W8.heap.size:=by rw[←hsz];exact hg.size
 refine ⟨⟨⟨su,(hb.same (hold mb hlm a2)).set 1 v3⟩,?_,?_⟩,?_,fun i hi hn=>?_,fun i hi=>?_,hold,hm.ios.trans ⟨hg.os,hg.tape,hg.output⟩⟩
 ·exact q0W (q0a hm.mo.rowL fun i hi=>hold i (q0V hm.mo.rowL i hi).2 (a3 i hi)) v3 a1
 ·have:=q0W hown (a:=⟨mb,1,none⟩) v3 h3
  rwa [List.length_append,List.length_singleton]
 ·rw[World.size_setCell];have:=hm.size;omega
 ·rw[heap_setCell_other W8 ⟨mb,1,none⟩ i v3 (fun e=>hn (.inl e)),hold i (by have:=hm.size;omega) (fun e=>hn (.inr (.inr e))),hm.off i hi hn]
 ·rcases hi with hi|hi|hi
  ·exact .inl (.inl hi)
  ·rcases hm.grew i hi with h|h
   ·exact .inl (.inr (.inl h))
   ·exact .inr h
  ·rcases hat with h|h
   ·exact .inl (.inr (.inr (h.symm.trans hi)))
   ·rw[h,hsz] at hi;cases hi;have:=hm.size;exact .inr (by omega)
theorem q8f {w:World} {mb base:Nat} {vL vM:Value} {bs:List Bt} {ms:List Value} (h:MoI w mb base vL vM (tos bs) ms) (hok:okBs bs) (hbm:base≤mb) (str:List UInt8) (hs:str.length≤4611686018427387903) (ex:Int) {ao:Option Addr} {k cap:Nat} {L:List Ev} (hx:Evs w ao k cap L) (hd: ∀a,ao=some a→0<k→¬MoB mb vL vM a.block)
  (hL:q1A L) (hwe: ∀e∈L,e.we<18446744073709551616) (hl:(tos bs).length≤100000) (hms:ms.length≤100000) {z:Int} (hz:q8A bs str ex L=z):
  Calls Tryz.prog 13 #[.pointer (some ⟨mb,0,none⟩),.string ⟨str.toArray⟩,.int .i64 ex,.slice ao k cap] w (MoAppR w mb base vL vM bs ms.length str L z):=by
 have HM:=η45 h;have HC:=η45 (q7K str 0 w hx hs hL);have HSt:=η45 (fun W (kk:Ext w W)=>q7H (h.ext kk) str hl);have hN:((tos bs).filter fun t=>decide (t.s=str)).length=(q0T bs str).length:=by rw[q3o hok,q4u]
 have hle:=List.length_filter_le (fun t:To=>decide (t.s=str)) (tos bs);generalize ((tos bs).filter fun t=>decide (t.s=str))=R at*;obtain ⟨n,hn⟩: ∃n,R.length=n:=⟨_,rfl⟩
 rw[hn] at hN hle HSt;obtain ⟨c,hc⟩: ∃c,q0N str 0 L=c:=⟨_,rfl⟩
 rw[hc] at HC;have HZ:Hid ((if c≠0 then c else if ex< -2 then 2 else if ex≠ -2∧ex≠(n:Int)-1 then 80 else 0)=z):=η45 (by rw[←hz];unfold q8A;rw[hc,←hN]);have HCk:=η45 hc;have HNn:=η45 hN;have hlen:=hx.len;have hf1:=hx.fits;have hf2:=hx.bound;have HX:=η45 hx;have HD:=η45 hd;have HWe:=η45 hwe;have q1:IntKind.i64.wrap ((n:Int)-1)=(n:Int)-1:=by rw[IntKind.wrap_i64];omega
 have q2:IntKind.i64.wrap ((n:Int)-1+1)=(n:Int):=by rw[IntKind.wrap_i64];omega
 clear h hx hd hz hc hN hok hn hL hwe;go_enter Tryz.func13,Tryz.ntmps13;go_wp2_with fail;refine HC.out.mono ?_;rintro e w1 ⟨rfl,hx⟩;have HX1:=η45 hx;clear hx HC;by_cases hc0:c=0
 case neg=>
  have hcn:(c !=(0:Int))=true:=by simpa using hc0
  have HZc:Hid (z=c):=η45 (by rw[←HZ.out,if_pos hc0]);have HC0:=η45 hc0;clear hc0;go_wp2_with fail;go_ret2;rw[HZc.out];exact MoAppR.no HM.out HC0.out HX1.out
 have hcn:(c !=(0:Int))=false:=by rw[hc0];rfl
 by_cases hex:ex< -2
 ·have hd1:decide (ex<(-2:Int))=true:=decide_eq_true hex
  have HZc:Hid (z=2):=η45 (by rw[←HZ.out,if_neg (by omega),if_pos hex]);clear hc0 hex;go_wp2_with fail;go_ret2;rw[HZc.out];exact MoAppR.no HM.out (by decide) HX1.out
 have hd1:decide (ex<(-2:Int))=false:=decide_eq_false hex;have HC0:=η45 hc0;clear hc0;go_wp2_with fail;refine (HSt.out _ HX1.out).mono ?_;rintro e w2 ⟨v,rfl,hrow,hx⟩;obtain ⟨va,vc,rfl⟩:=q0G hrow;have HX2:=η45 (HX1.out.trans hx);clear hx hrow HSt;by_cases hv:ex≠ -2∧ex≠(n:Int)-1
 ·have hd2:(ex !=(-2:Int))=true:=by simpa using hv.1
  have hd3:(ex !=(n:Int)-1)=true:=by simpa using hv.2
  have HZc:Hid (z=80):=η45 (by rw[←HZ.out,if_neg (by have:=HC0.out;omega),if_neg (by omega),if_pos hv]);clear hex hv;go_wp2_with fail;go_ret2;rw[HZc.out];exact MoAppR.no HM.out (by decide) HX2.out
 have hv2:(ex !=(-2:Int))=false∨((ex !=(-2:Int))=true∧(ex !=(n:Int)-1)=false):=by
  by_cases h:ex= -2
  ·exact .inl (by rw[h];rfl)
  ·exact .inr ⟨by simpa using h,by have:ex=(n:Int)-1:=Decidable.not_not.1 fun hh=>hv ⟨h,hh⟩;rw[this];simp⟩
 have HZc:Hid (z=0):=η45 (by rw[←HZ.out,if_neg (by have:=HC0.out;omega),if_neg (by omega),if_neg hv]);have hb0:q0N str 0 L=0:=by rw[HCk.out,HC0.out]
 have hn6:n≤1000000:=by omega
 have hokb:z1o ⟨str,n,L⟩:=⟨q4V (n:=n) hb0 hn6,fun e he=>HWe.out e he⟩
 have HPu:=η45 (z5P (b:=⟨str,n,L⟩) w2 (HX.out.ext HX2.out) hokb);have hp:=q0j hb0;have hk8:k≤8:=by have:=hp.2.2.2.1;omega
 simp only at HPu;clear hb0 hokb hv hex hp;rcases hv2 with hd2|⟨hd2,hd3⟩
 all_goals
  go_wp2_with fail;refine HPu.out.mono ?_;rintro e w3 ⟨S,rfl,hx⟩;have HX3:=η45 (HX2.out.trans hx);clear hx;go_wp2_with fail
  go_loopw [12] (fun iv W=> ∃(j:Nat) (v2:Value),iv= .int .i64 (j:Int)∧j≤k∧MoMid w mb base vL vM (tos bs++q3z str n (L.take j)) ms v2 W) (fun i _=>k-(intOf i).toNat)
  case atStart=>exact ⟨0,vL,rfl,Nat.zero_le _,MoMid.start HM.out HX3.out (by simp[q3z])⟩
  case round=>
   obtain ⟨j,v2,rfl,hj,hm⟩:=hrel;by_cases hlt:j<k
   ·have hdj:decide ((j:Int)<(k:Int))=true:=decide_eq_true (by omega)
    have hji:(j:Int)<(k:Int):=by omega
    have q3:IntKind.i64.wrap ((n:Int)+(j:Int))=(n:Int)+(j:Int):=by rw[IntKind.wrap_i64];omega
    have q5:IntKind.i64.wrap (n:Int)=(n:Int):=by rw[IntKind.wrap_i64];omega
    have q4:IntKind.i64.wrap ((j:Int)+1)=(j:Int)+1:=by rw[IntKind.wrap_i64];omega
    have hLt: ∀a,ao=some a→a.block<w.heap.size:=fun a e=>by
     obtain ⟨b,off,e2,c0,_⟩:=HX.out.at (i:=0) (by omega);rw[e] at e2;cases e2;exact World.block_lt_of_cell? _ _ c0
    have hev:Evs wr ao k cap L:=HX.out.keep fun a e=>hm.off _ (hLt a e) (HD.out a e (by omega))
    have hT2:tos bs++q3z str n (L.take (j+1))=(tos bs++q3z str n (L.take j))++[⟨str,((n+j:Nat):Int),L.getD j ev0⟩]:=by
     rw[List.take_succ_eq_append_getElem (by omega),q3u,List.length_take,Nat.min_eq_left (by omega),List.append_assoc,List.getD_eq_getElem?_getD,List.getElem?_eq_getElem (by omega)];rfl
    obtain ⟨eb,off,rfl,e0,e1,e2⟩:=hev.at hlt;have hDe:=HD.out _ rfl (by omega);have hLe:=hLt _ rfl;generalize L.getD j ev0=y at*;obtain ⟨y1,y2,y3⟩:=y;simp only at e0 e1 e2 hDe hLe;rw[show ((n+j:Nat):Int)=(n:Int)+(j:Int) by omega] at hT2;have HT2:=η45 hT2;have hTl:(tos bs++q3z str n (L.take j)).length≤100010:=by rw[List.length_append,q1u,List.length_take];omega
    generalize tos bs++q3z str n (L.take j)=T at*;obtain ⟨la,lc,rfl⟩:=q0G hm.mo.rowL;obtain ⟨N,hN⟩: ∃N,T.length=N:=⟨_,rfl⟩
    obtain ⟨su,hb⟩:=hm.mo.blk;have hap:=hm.mo.apart;have hrow:=hm.mo.rowL;have HMm:=η45 hm;rw[hN] at hb hrow hap HMm hTl;have HN:=η45 hN;have k0:=hb.cell 0;have f0:=hb.free 0;have HMw:Hid (mb<w.heap.size):=η45 (by obtain ⟨_,h⟩:=HM.out.blk;exact h.lt);have HBs:Hid (base≤wr.heap.size):=η45 (by have:=hb.lt;omega);have HBl:=η45 hb.lt;have HRw:Hid (∀W',Ext wr W'→W'.ownsRow base 87 5 (.slice la N lc) N (q5E T)):=η45 fun W' kk=>q0J hrow kk
    have HSw:Hid (∀W',(∀i,(i=mb∨i=eb)→W'.heap[i]? =wr.heap[i]?)→(fun W:World=>W.cell? ⟨mb,0,none⟩=some (.slice la N lc)∧W.cell? ⟨eb,off+j*3,none⟩=some (.string ⟨y1.toArray⟩)∧W.cell? ⟨eb,off+j*3+1,none⟩=some (.string ⟨y2.toArray⟩)∧W.cell? ⟨eb,off+j*3+2,none⟩=some (.float .f64 y3)) W'):=η45 fun W' kk=>
     ⟨(World.cell?_of_block (a:=⟨mb,0,none⟩) (kk mb (.inl rfl))).trans k0,(World.cell?_of_block (a:=⟨eb,off+j*3,none⟩) (kk eb (.inr rfl))).trans e0,(World.cell?_of_block (a:=⟨eb,off+j*3+1,none⟩) (kk eb (.inr rfl))).trans e1,(World.cell?_of_block (a:=⟨eb,off+j*3+2,none⟩) (kk eb (.inr rfl))).trans e2⟩
    have HEb:Hid (eb<wr.heap.size∧(Value.slice la N lc).ownBlock≠some eb):=η45 ⟨World.block_lt_of_cell? _ _ e0,fun e=>by
     rcases HMm.out.grew eb e with h|h
     ·exact hDe (.inr (.inl h))
     ·omega⟩
    have HAp:=η45 hap.1;have hsf:=q1T;clear hm hb hrow hap hev hLt hT2 hDe hLe hN;go_wp2_with fail;have HRl:=η45 (show Rd (wr.alloc (.cells #[.string ⟨str.toArray⟩,.int .i64 ((n:Int)+(j:Int)),.string ⟨y1.toArray⟩,.string ⟨y2.toArray⟩,.float .f64 y3] 87)).drew (some ⟨wr.heap.size,0,none⟩) (toc ⟨str,(n:Int)+(j:Int),⟨y1,y2,y3⟩⟩) from (Rd.lit wr #[.string ⟨str.toArray⟩,.int .i64 ((n:Int)+(j:Int)),.string ⟨y1.toArray⟩,.string ⟨y2.toArray⟩,.float .f64 y3] 87).ext (Ext.refl _).drew);refine q2O (fun W:World=>W.cell? ⟨mb,0,none⟩=some (.slice la N lc)∧W.cell? ⟨eb,off+j*3,none⟩=some (.string ⟨y1.toArray⟩)∧W.cell? ⟨eb,off+j*3+1,none⟩=some (.string ⟨y2.toArray⟩)∧W.cell? ⟨eb,off+j*3+2,none⟩=some (.float .f64 y3)) 17 (by kernel_rfl) (HSw.out _ fun i _=>rfl) (fun hHeld=>?_);refine q0C (i:=0) (v:=?_) rfl (by kernel_rfl) (fun _ _ _ h=>h) (Or.inl ⟨by rfl,?_⟩) hHeld (fun hHeld=>?_)
    rotate_left
    ·(intro w hSw;(try dsimp only at hSw);go_simp;try with_reducible rfl)
    simp only[Act.put,List.setIfInBounds_toArray,List.set_cons_zero,List.set_cons_succ];refine q0C (i:=1) (v:=?_) rfl (by kernel_rfl) (fun _ _ _ h=>h) (Or.inl ⟨by rfl,?_⟩) hHeld (fun hHeld=>?_)
    rotate_left
    ·(intro w hSw;(try dsimp only at hSw);go_simp;try with_reducible rfl)
    simp only[Act.put,List.setIfInBounds_toArray,List.set_cons_zero,List.set_cons_succ];refine q0C (i:=2) (v:=?_) rfl (by kernel_rfl) (fun _ _ _ h=>h) (Or.inl ⟨by rfl,?_⟩) hHeld (fun hHeld=>?_)
    rotate_left
    ·(intro w hSw;(try dsimp only at hSw);go_simp;try with_reducible rfl)
    simp only[Act.put,List.setIfInBounds_toArray,List.set_cons_zero,List.set_cons_succ];refine q0C (i:=3) (v:=?_) rfl (by kernel_rfl) (fun _ _ _ h=>h) (Or.inl ⟨by rfl,?_⟩) hHeld (fun hHeld=>?_)
    rotate_left
    ·(intro w hSw;(try dsimp only at hSw);go_simp;try with_reducible rfl)
    simp only[Act.put,List.setIfInBounds_toArray,List.set_cons_zero,List.set_cons_succ];refine q0z (i:=4) (v:=?_) rfl (by kernel_rfl) (fun _ _ _ h=>h) (Or.inl ⟨by rfl,?_⟩) hHeld (fun hHeld=>?_)
    rotate_left
    ·(intro w hSw;(try dsimp only at hSw);go_simp;try with_reducible rfl)
    simp only[Act.put,List.setIfInBounds_toArray,List.set_cons_zero,List.set_cons_succ];refine q0C (i:=5) (v:=?_) rfl (by kernel_rfl) (fun _ _ _ h=>h) (Or.inl ⟨by rfl,?_⟩) hHeld (fun hHeld=>?_)
    rotate_left
    ·(intro w hSw;(try dsimp only at hSw);go_simp;try with_reducible rfl)
    simp only[Act.put,List.setIfInBounds_toArray,List.set_cons_zero,List.set_cons_succ];refine q0C (i:=6) (v:=?_) rfl (by kernel_rfl) (fun _ _ _ h=>h) (Or.inl ⟨by rfl,?_⟩) hHeld (fun hHeld=>?_)
    rotate_left
    ·(intro w hSw;(try dsimp only at hSw);go_simp;try with_reducible rfl)
    simp only[Act.put,List.setIfInBounds_toArray,List.set_cons_zero,List.set_cons_succ];refine q0C (i:=7) (v:=?_) rfl (by kernel_rfl) (fun _ _ _ h=>h) (Or.inl ⟨by rfl,?_⟩) hHeld (fun hHeld=>?_)
    rotate_left
    ·(intro w hSw;(try dsimp only at hSw);go_simp;try with_reducible rfl)
    simp only[Act.put,List.setIfInBounds_toArray,List.set_cons_zero,List.set_cons_succ];refine q0C (i:=8) (v:=?_) rfl (by kernel_rfl) (fun _ _ _ h=>h) (Or.inl ⟨by rfl,?_⟩) hHeld (fun hHeld=>?_)
    rotate_left
    ·(intro w hSw;(try dsimp only at hSw);go_simp;try with_reducible rfl)
    simp only[Act.put,List.setIfInBounds_toArray,List.set_cons_zero,List.set_cons_succ];refine q0C (i:=9) (v:=?_) rfl (by kernel_rfl) (fun _ _ _ h=>h) (Or.inl ⟨by rfl,?_⟩) hHeld (fun hHeld=>?_)
    rotate_left
    ·(intro w hSw;(try dsimp only at hSw);go_simp;try with_reducible rfl)
    simp only[Act.put,List.setIfInBounds_toArray,List.set_cons_zero,List.set_cons_succ];refine q0C (i:=10) (v:=?_) rfl (by kernel_rfl) (fun _ _ _ h=>h) (Or.inl ⟨by rfl,?_⟩) hHeld (fun hHeld=>?_)
    rotate_left
    ·(intro w hSw;(try dsimp only at hSw);go_simp;try with_reducible rfl)
    simp only[Act.put,List.setIfInBounds_toArray,List.set_cons_zero,List.set_cons_succ];refine q0C (i:=11) (v:=?_) rfl (by kernel_rfl) (fun _ _ _ h=>h) (Or.inl ⟨by rfl,?_⟩) hHeld (fun hHeld=>?_)
    rotate_left
    ·(intro w hSw;(try dsimp only at hSw);go_simp;try with_reducible rfl)
    simp only[Act.put,List.setIfInBounds_toArray,List.set_cons_zero,List.set_cons_succ];refine q0C (i:=12) (v:=?_) rfl (by kernel_rfl) (fun _ _ _ h=>h) (Or.inl ⟨by rfl,?_⟩) hHeld (fun hHeld=>?_)
    rotate_left
    ·(intro w hSw;(try dsimp only at hSw);go_simp;try with_reducible rfl)
    simp only[Act.put,List.setIfInBounds_toArray,List.set_cons_zero,List.set_cons_succ];refine q0z (i:=13) (v:=?_) rfl (by kernel_rfl) (fun _ _ _ h=>h) (Or.inl ⟨by rfl,?_⟩) hHeld (fun hHeld=>?_)
    rotate_left
    ·(intro w hSw;(try dsimp only at hSw);go_simp;try with_reducible rfl)
    simp only[Act.put,List.setIfInBounds_toArray,List.set_cons_zero,List.set_cons_succ];refine q0C (i:=14) (v:=?_) rfl (by kernel_rfl) (fun _ _ _ h=>h) (Or.inl ⟨by rfl,?_⟩) hHeld (fun hHeld=>?_)
    rotate_left
    ·(intro w hSw;(try dsimp only at hSw);go_simp;try with_reducible rfl)
    simp only[Act.put,List.setIfInBounds_toArray,List.set_cons_zero,List.set_cons_succ];refine q1G (i:=15) (by kernel_rfl) rfl (fun K hK=>?_)
    go_simp
    have HX1a:Hid (Ext wr (wr.alloc (.cells #[.string ⟨str.toArray⟩,.int .i64 ((n:Int)+(j:Int)),.string ⟨y1.toArray⟩,.string ⟨y2.toArray⟩,.float .f64 y3] 87)).drew):=η45 ((q0B wr _).drew);refine hK.out _ _ (HSw.out _ fun i hi=>HX1a.out.block i (by rcases hi with hi|hi;rw[hi];exact HBl.out;rw[hi];exact HEb.out.1)) (fun hHeld=>?_);clear hK K
    try simp only[Act.put,List.setIfInBounds_toArray,List.set_cons_zero,List.set_cons_succ]
    refine q1G (i:=16) (by kernel_rfl) rfl (fun K hK=>?_);refine q1Q rfl (.tmp 56) (.tmp 67) 35 rfl base 87 _ 5 64 Tryz.underlying35 Tryz.infoTo (by decide) (by decide) (.slice la N lc) N (q5E T) rfl (HRw.out _ HX1a.out) _ 1 1 (toc ⟨str,(n:Int)+(j:Int),⟨y1,y2,y3⟩⟩) rfl rfl (fun h=>by cases h) HRl.out (by unfold toc;simp[Value.oneCell']) (by unfold maxLen;omega) (by omega) (by have:=HBs.out;simp;omega) ?_;intro v3 x2 hown hgrow hat;obtain ⟨a3,k3,rfl⟩:=q0G hown;obtain ⟨t1,t2⟩:=HMm.out.told (t:=⟨str,(n:Int)+(j:Int),⟨y1,y2,y3⟩⟩) (Wd:=wr.drew) (lit:=(.cells #[.string ⟨str.toArray⟩,.int .i64 ((n:Int)+(j:Int)),.string ⟨y1.toArray⟩,.string ⟨y2.toArray⟩,.float .f64 y3] 87)) HMw.out rfl ⟨rfl,rfl,rfl⟩ (by rw[HN.out];exact hown) hgrow hat;have HF:=η45 t1;have h8m:=t2 mb HBl.out HAp.out;have h8e:=t2 eb HEb.out.1 HEb.out.2;have HSx:=η45 (HSw.out x2 fun i hi=>by rcases hi with hi|hi<;>rw[hi]<;>assumption)
    have f8:=(World.frozen?_of_block (a:=⟨mb,0,none⟩) h8m).trans f0;clear hown hgrow hat t1 t2 h8m h8e;refine hK.out _ _ HSx.out (fun hHeld=>?_);clear hK K
    try simp only[Act.put,List.setIfInBounds_toArray,List.set_cons_zero,List.set_cons_succ]
    refine q2v (by kernel_rfl) ?_
    try simp only[List.drop_succ_cons,List.drop_zero]
    clear hHeld;obtain ⟨d0,_,_,_⟩:=HSx.out;go_wp2_with fail
    go_roundw
    case rel=>
     refine ⟨j+1,.slice a3 (N+1) k3,by go_num,by omega,?_⟩;rw[HT2.out];exact HF.out
    case measure=>simp[intOf];omega
   ·obtain rfl:j=k:=by omega
    have hdk:decide ((j:Int)<(j:Int))=false:=decide_eq_false (by omega);have hTk:tos bs++q3z str n (L.take j)=tos (bs++[⟨str,n,L⟩]):=by
     rw[List.take_of_length_le (by omega),q2Q,q5y];rfl
    rw[hTk] at hm;obtain ⟨ma,mc,rfl⟩:=q0G hm.mo.rowM;obtain ⟨su,hb⟩:=hm.mo.blk;have k1:=hb.cell 1;have f1:=hb.free 1;have HMm:=η45 hm;have HRm:=η45 hm.mo.rowM;have HMw:Hid (mb<w.heap.size):=η45 (by obtain ⟨_,h⟩:=HM.out.blk;exact h.lt);have HBs:Hid (base≤wr.heap.size):=η45 (by have:=hb.lt;omega);have HRl:=η45 (Rd.lit wr #[.int .i64 (j:Int)] 3);have HBl:=η45 hb.lt;clear hm hb hTk
    go_wp2_with (at_builtin;refine q0M rfl _ _ 36 rfl base 3 _ 1 8 Tryz.underlying36 Tryz.infoI (by decide) (by decide) _ ms.length ms rfl (q0J HRm.out (q0B _ _)) _ 1 1 [.int .i64 (j:Int)] rfl rfl (fun h=>by cases h) HRl.out (by simp[Value.oneCell']) (by unfold maxLen;omega) (by omega) (by have:=HBs.out;simp;omega) ?_;intro v3 w8 hown hgrow hat;obtain ⟨a3,k3,rfl⟩:=q0G hown;have HF:=η45 (HMm.out.many HMw.out hown hgrow hat);have h8:=HF.out.2.2.2.2.1 mb HBl.out HMm.out.mo.apart.2.1;have k1':=(World.cell?_of_block (a:=⟨mb,1,none⟩) h8).trans k1;have f1':=(World.frozen?_of_block (a:=⟨mb,1,none⟩) h8).trans f1;clear hown hgrow hat h8)
    go_ret2;obtain ⟨g1,g2,g3,g4,_,g6⟩:=HF.out;exact ⟨_,_,_,_,(n:Int),0,rfl,g1,by simp,g2,g3,g4,.inr ⟨HZc.out,by rw[HNn.out],rfl,by rw[HNn.out]⟩,g6⟩
end
section
open Go.RowKit
def RwI (W:World) (gw mb:Nat) (str:List UInt8) (a:Int):Prop:=Blk W gw 57 #[.pointer (some ⟨mb,0,none⟩),.string ⟨str.toArray⟩,.int .i64 a]
theorem z7A {w:World} {mb base:Nat} {vL vM:Value} {bs:List Bt} {ms:List Value} (h:MoI w mb base vL vM (tos bs) ms) (hok:okBs bs) (str:List UInt8) (hs:str.length≤4611686018427387903) (hl:(tos bs).length≤100000) (a:Int):
  Calls Tryz.prog 11 #[.pointer (some ⟨mb,0,none⟩),.string ⟨str.toArray⟩,.int .i64 a] w fun e w'=>Ext w w'∧
   ((q5a bs str a≠0∧e= .returned (.tuple #[.pointer none,.int .i64 (q5a bs str a)]))∨(q5a bs str a=0∧ ∃gw,e= .returned (.tuple #[.pointer (some ⟨gw,0,none⟩),.int .i64 0])∧RwI w' gw mb str a∧w.heap.size≤gw)):=by
 have HL:=η45 (z6z h hok str hs hl);have HZ:Hid (q5a bs str a=if (q3f bs str).2≠0 then (q3f bs str).2 else if a< -1 then 2 else if (q3f bs str).1<a then 80 else 0):=η45 rfl;clear h hok;generalize q5a bs str a=z at*;generalize q3f bs str=xy at*;obtain ⟨x,y⟩:=xy;simp only at HL HZ;go_enter Tryz.func11,Tryz.ntmps11;go_wp2_with fail;refine HL.out.mono ?_;rintro e w1 ⟨rfl,hx⟩;have HX:=η45 hx;clear hx HL;by_cases hy:y=0
 ·have hd0:(y !=(0:Int))=false:=by rw[hy];rfl
  by_cases ha:a< -1
  ·have hd1:decide (a<(-1:Int))=true:=decide_eq_true ha
   have HZ1:Hid (z=2):=η45 (by have:=HZ.out;rw[if_neg (by omega),if_pos ha] at this;exact this);clear ha;go_wp2_with fail;go_ret2;exact ⟨HX.out,.inl ⟨by rw[HZ1.out];decide,by rw[HZ1.out];rfl⟩⟩
  ·have hd1:decide (a<(-1:Int))=false:=decide_eq_false ha
   by_cases hxa:x<a
   ·have hd2:decide (x<a)=true:=decide_eq_true hxa
    have HZ1:Hid (z=80):=η45 (by have:=HZ.out;rw[if_neg (by omega),if_neg ha,if_pos hxa] at this;exact this);clear ha hxa;go_wp2_with fail;go_ret2;exact ⟨HX.out,.inl ⟨by rw[HZ1.out];decide,by rw[HZ1.out];rfl⟩⟩
   ·have hd2:decide (x<a)=false:=decide_eq_false hxa
    have HZ1:Hid (z=0):=η45 (by have:=HZ.out;rw[if_neg (by omega),if_neg ha,if_neg hxa] at this;exact this);clear ha hxa;go_wp2_with fail;go_ret2;exact ⟨HX.out.trans (q0B w1 _),.inr ⟨HZ1.out,_,rfl,Blk.new w1 _ _,HX.out.size⟩⟩
 ·have hd0:(y !=(0:Int))=true:=by simpa using hy
  have HZ1:Hid (z=y):=η45 (by have:=HZ.out;rw[if_pos hy] at this;exact this);go_wp2_with fail;go_ret2;exact ⟨HX.out,.inl ⟨by rw[HZ1.out];exact hy,by rw[HZ1.out];rfl⟩⟩
end
section
open Go.RowKit
section
variable {wb w W W':World} {g gs gw rate u n:Nat} {sd c s:Int} {bs:List Bt} {K K':Nat→Prop}
def WrI (W:World) (gw gs:Nat) (str:List UInt8) (a:Int):Prop:=Blk W gw 94 #[.pointer (some ⟨gs,0,none⟩),.string ⟨str.toArray⟩,.int .i64 a]
theorem q7M (h:SK wb w g gs rate sd c s u n bs K) (hn:n≤1000) (str:List UInt8) (hs:str.length≤4611686018427387903) (a:Int):
  Calls Tryz.prog 10 #[.pointer (some ⟨gs,0,none⟩),.string ⟨str.toArray⟩,.int .i64 a] w fun e w'=>Ext wb w'∧Stay K w w'∧
   ((q5a bs str a≠0∧e= .returned (.tuple #[.pointer none,.int .i64 (q5a bs str a)])∧SK wb w' g gs rate sd c s u n bs K)∨
   (q5a bs str a=0∧ ∃gw,e= .returned (.tuple #[.pointer (some ⟨gw,0,none⟩),.int .i64 0])∧WrI w' gw gs str a∧¬K gw∧wb.heap.size≤gw∧SK wb w' g gs rate sd c s u n bs (fun i=>K i∨i=gw))):=by
 obtain ⟨x,y,hxy⟩: ∃x y,q3f bs str=(x,y):=⟨_,_,rfl⟩
 have HL:=η45 (h.last hn str hs hxy);have hz:q5a bs str a=if y≠0 then y else if a< -1 then 2 else if x<a then 80 else 0:=by unfold q5a;rw[hxy]
 have HZ:=η45 hz;clear h hxy hz;generalize q5a bs str a=z at*;go_enter Tryz.func10,Tryz.ntmps10;go_wp2_with fail;refine HL.out.mono ?_;rintro e w1 ⟨rfl,h1,h2⟩;have HK:=η45 h1;have HS:=η45 h2;clear h1 h2 HL;by_cases hy:y=0
 ·have hd0:(y !=(0:Int))=false:=by rw[hy];rfl
  by_cases ha:a< -1
  ·have hd1:decide (a<(-1:Int))=true:=decide_eq_true ha
   have HZ1:Hid (z=2):=η45 (by have:=HZ.out;rw[if_neg (by omega),if_pos ha] at this;exact this);clear ha;go_wp2_with fail;go_ret2;exact ⟨HK.out.base,HS.out,.inl ⟨by rw[HZ1.out];decide,by rw[HZ1.out];rfl,HK.out⟩⟩
  ·have hd1:decide (a<(-1:Int))=false:=decide_eq_false ha
   by_cases hx:x<a
   ·have hd2:decide (x<a)=true:=decide_eq_true hx
    have HZ1:Hid (z=80):=η45 (by have:=HZ.out;rw[if_neg (by omega),if_neg ha,if_pos hx] at this;exact this);clear ha hx;go_wp2_with fail;go_ret2;exact ⟨HK.out.base,HS.out,.inl ⟨by rw[HZ1.out];decide,by rw[HZ1.out];rfl,HK.out⟩⟩
   ·have hd2:decide (x<a)=false:=decide_eq_false hx
    have HZ1:Hid (z=0):=η45 (by have:=HZ.out;rw[if_neg (by omega),if_neg ha,if_neg hx] at this;exact this);clear ha hx;go_wp2_with fail;go_ret2;have hx1:=q0B w1 (.cells #[.pointer (some ⟨gs,0,none⟩),.string ⟨str.toArray⟩,.int .i64 a] 94);refine ⟨HK.out.base.trans hx1,fun i hi=>(hx1.block i (HK.out.klt i hi)).trans (HS.out i hi),.inr ⟨HZ1.out,_,rfl,Blk.new w1 _ _,fun hk=>Nat.lt_irrefl _ (HK.out.klt _ hk),HK.out.base.size,HK.out.more hx1 fun i hi=>?_⟩⟩;rcases hi with hi|hi
    ·exact .inl hi
    ·exact .inr ⟨by omega,by rw[World.size_alloc];omega⟩
 ·have hd0:(y !=(0:Int))=true:=by simpa using hy
  have HZ1:Hid (z=y):=η45 (by have:=HZ.out;rw[if_pos hy] at this;exact this);go_wp2_with fail;go_ret2;exact ⟨HK.out.base,HS.out,.inl ⟨by rw[HZ1.out];exact hy,by rw[HZ1.out];rfl,HK.out⟩⟩
theorem z7B {str:List UInt8} {a:Int} (h:WrI w gw gs str a):Calls Tryz.prog 16 #[.pointer (some ⟨gw,0,none⟩)] w fun e w'=>e= .returned (.int .i64 a)∧w=w':=by
 have k0:=h.cell 0;have k2:=h.cell 2;clear h;go_enter Tryz.func16,Tryz.ntmps16;go_wp2_with fail;go_ret;exact ⟨rfl,rfl⟩
theorem WrI.same {W W':World} {str:List UInt8} {a:Int} (h:WrI W gw gs str a) (k:W'.heap[gw]? =W.heap[gw]?):WrI W' gw gs str a:=Blk.same h k
theorem y0N (h:SK wb w g gs rate sd c s u n bs K) (hn:n≤1000) {str:List UInt8} {a:Int} (hw:WrI w gw gs str a) (hgw:K gw) (hs:str.length≤4611686018427387903) (ha: -1≤a) (ha2:a≤1000000000) {ao:Option Addr} {k cap:Nat} {L:List Ev} (hx: ∀W,Ext wb W→Stay K w W→Evs W ao k cap L) (hk:k≤1000000):
  Calls Tryz.prog 44 #[.pointer (some ⟨gw,0,none⟩),.slice ao k cap] w fun e w'=>e= .returned (.bool (q2z bs str a L))∧SK wb w' g gs rate sd c s u n bs K∧Stay K w w':=by
 have hev:=hx w h.base (Stay.refl _ _);have hlen:=hev.len;have hq:=hev.fits;have hq2:=hev.bound;have HX:=η45 hx;have HK:=η45 h;have HF:=η45 ((h.grow (Ext.refl _).drew).forward hn str hs (a+1) (k:Int) (by omega) (by omega));have k0:=hw.cell 0;have k1:=hw.cell 1;have k2:=hw.cell 2;have q1:IntKind.i64.wrap (a+1)=a+1:=by rw[IntKind.wrap_i64];omega
 have hth:q2z bs str a L=(!L.isEmpty&&q0v ((z6k bs str (a+1) (k:Int)).map To.e) L):=by unfold q2z;rw[hlen]
 have HTh:=η45 hth;have HB:=η45 h.base;clear hx h hw hev hth;generalize q2z bs str a L=z at*;go_enter Tryz.func44,Tryz.ntmps44;by_cases hk0:k=0
 ·have hd0:((k:Int)==0)=true:=by rw[hk0];rfl
  have hL:L=[]:=List.eq_nil_of_length_eq_zero (by omega);have hz:z=false:=by have:=HTh.out;rw[hL] at this;simpa using this
  clear hlen;go_wp2_with fail;go_ret;exact ⟨by rw[hz];rfl,HK.out,Stay.refl _ _⟩
 have hd0:((k:Int)==0)=false:=by simpa using hk0
 have hkL:L≠[]:=fun e=>by rw[e] at hlen;simp at hlen;omega
 have HL:=η45 hkL;obtain ⟨R,hR⟩: ∃R,z6k bs str (a+1) (k:Int)=R:=⟨_,rfl⟩
 obtain ⟨y,hy⟩: ∃y,q4w str (a+1) (k:Int)=y:=⟨_,rfl⟩
 have HR:Hid (y≠0→R=[]):=η45 fun h=>by rw[←hR];unfold z6k;rw[if_neg (by rw[hy];exact h)]
 have hRl:R.length≤k:=by
  rw[←hR];unfold z6k q7L
  split
  ·rw[List.length_take];omega
  ·simp
 rw[hR] at HTh;rw[hR,hy] at HF;have d0:=q0A (Ext.refl _).drew k0;have d1:=q0A (Ext.refl _).drew k1;have d2:=q0A (Ext.refl _).drew k2;clear hR hy hkL;go_wp2_with fail
 go_region_held3 (fun W=>W.cell? ⟨gw,0,none⟩=some (.pointer (some ⟨gs,0,none⟩))∧W.cell? ⟨gw,1,none⟩=some (.string ⟨str.toArray⟩)∧W.cell? ⟨gw,2,none⟩=some (.int .i64 a))
  (first|exact HC3.out|exact ⟨d0,d1,d2⟩)
  (first|(go_at_call 29;refine HF.out.mono ?_;rintro e w3 ⟨v,rfl,h1,h2,h3,h4⟩;obtain ⟨va,vc,rfl⟩:=q0G h3;have HK3:=η45 h1;have HS3:Hid (Stay K w w3):=η45 h2;have HR3:=η45 h3;have HD3:=η45 h4;have HC3:Hid (w3.cell? ⟨gw,0,none⟩=some (.pointer (some ⟨gs,0,none⟩))∧w3.cell? ⟨gw,1,none⟩=some (.string ⟨str.toArray⟩)∧w3.cell? ⟨gw,2,none⟩=some (.int .i64 a)):=η45 ⟨(World.cell?_of_block (a:=⟨gw,0,none⟩) (h2 gw hgw)).trans k0,(World.cell?_of_block (a:=⟨gw,1,none⟩) (h2 gw hgw)).trans k1,(World.cell?_of_block (a:=⟨gw,2,none⟩) (h2 gw hgw)).trans k2⟩;clear h1 h2 h3 h4))
 clear HC3 d0 d1 d2 k0 k1 k2;by_cases hy:y=0
 case neg=>
  have hd1:(y !=(0:Int))=true:=by simpa using hy
  have hz:z=false:=by
   have h1:=HTh.out;rw[HR.out hy] at h1;have h2:q0v (([]:List To).map To.e) L=false:=q6n (by rw[hlen];simp;omega);rw[h2,Bool.and_false] at h1;exact h1
  clear hy;go_wp2_with fail;go_ret;exact ⟨by rw[hz];rfl,HK3.out.beside fun i hi=> .inl hi,HS3.out⟩
 have hd1:(y !=(0:Int))=false:=by rw[hy];rfl
 have ht:=(q5r HR3.out).1;obtain ⟨nT,hnT⟩: ∃nT,R.length=nT:=⟨_,rfl⟩
 have HnT:=η45 hnT;obtain ⟨KT,hKT⟩: ∃K':Nat→Prop,(fun i=>K i∨(Value.slice va R.length vc).ownBlock=some i)=K':=⟨_,rfl⟩
 have HKT:Hid (∀i,K i→KT i):=η45 fun i hi=>by rw[←hKT];exact .inl hi
 have HTA:Hid (∀W,Stay KT w3 W→Tos W va nT vc R):=η45 fun W kk=>by
  have:=(q5r (q0a HR3.out fun i hi=>kk i (by rw[←hKT];exact .inr hi))).1
  rwa [hnT] at this
 rw[hKT] at HK3;rw[hnT] at hRl ht⊢;have hq3:=ht.fits;have hq4:=ht.bound;clear hy hKT HR3 HD3 hnT ht;go_wp2_with fail
 go_loopw [7,36] (fun ov oi W=> ∃(j:Nat) (vI:Value) (M:List Ev),ov=vI∧oi= .int .i64 (j:Int)∧j≤nT∧Hid ((R.map To.e).take j=M)∧SK wb W g gs rate sd c s u n bs (fun i=>KT i∨vI.ownBlock=some i)∧Stay KT w3 W∧
  W.ownsRow wb.heap.size 85 3 vI M.length (q5A M)∧ ∀i,KT i→vI.ownBlock≠some i) (fun _ i _=>nT-(intOf i).toNat)
 case atStart=>exact ⟨0,_,[],rfl,rfl,Nat.zero_le _,η45 (by simp),HK3.out.beside fun i hi=>(by rcases hi with hi|hi;exact hi;cases hi),Stay.refl _ _,⟨rfl,.inl ⟨rfl,rfl⟩⟩,fun i _ e=>by cases e⟩
 case round=>
  obtain ⟨j,vI,M,rfl,rfl,hj,HM,hsk,hsy,hrow,hdj⟩:=hrel;obtain ⟨ia,ic,rfl⟩:=q0G hrow;have hMl:M.length=j:=by rw[←HM.out,List.length_take,List.length_map,HnT.out];omega
  by_cases hlt:j<nT
  ·have hd2:decide ((j:Int)<(nT:Int))=true:=decide_eq_true (by omega)
   have hji:(j:Int)<(nT:Int):=by omega
   have q8:IntKind.i64.wrap ((j:Int)+1)=(j:Int)+1:=by rw[IntKind.wrap_i64];omega
   obtain ⟨bb,off,rfl,c0,c1,c2,c3,c4⟩:=(HTA.out _ hsy).at hlt
   have HM2:Hid ((R.map To.e).take (j+1)=M++[(R.getD j to0).e]):=η45 (by
    have h:=HnT.out
    rw[List.take_succ_eq_append_getElem (by rw[List.length_map];omega),HM.out,List.getElem_map,List.getD_eq_getElem?_getD,List.getElem?_eq_getElem (by omega)];rfl)
   generalize R.getD j to0=t at*;obtain ⟨ts,tv,⟨ty,da,we⟩⟩:=t;simp only at c0 c1 c2 c3 c4 HM2;have hsf:=q1T;have hx1:=q0B wr (.cells #[.string ⟨ts.toArray⟩,.int .i64 tv,.string ⟨ty.toArray⟩,.string ⟨da.toArray⟩,.float .f64 we] 87);have hbk:=Blk.new wr 87 #[.string ⟨ts.toArray⟩,.int .i64 tv,.string ⟨ty.toArray⟩,.string ⟨da.toArray⟩,.float .f64 we];have e0:=hbk.cell 0;have e1:=hbk.cell 1;have e2:=hbk.cell 2;have e3:=hbk.cell 3;have e4:=hbk.cell 4;have HKj:=η45 (hsk.grow hx1);have HSj:=η45 hsy;have HDj:=η45 hdj;have HSx:Hid (Stay KT wr (wr.alloc (.cells #[.string ⟨ts.toArray⟩,.int .i64 tv,.string ⟨ty.toArray⟩,.string ⟨da.toArray⟩,.float .f64 we] 87))):=η45 fun i hi=>hx1.block i (hsk.klt i (.inl hi))
   have hrl:=Rd.lit (wr.alloc (.cells #[.string ⟨ts.toArray⟩,.int .i64 tv,.string ⟨ty.toArray⟩,.string ⟨da.toArray⟩,.float .f64 we] 87)) #[.string ⟨ty.toArray⟩,.string ⟨da.toArray⟩,.float .f64 we] 85;rw[World.size_alloc] at hrl;have HRl:=η45 hrl;have HRj:=η45 (q0J hrow hx1);have HBs:=η45 hsk.base.size;rw[hMl] at HKj HRj HDj⊢;have HMl:=η45 hMl;clear hsk hsy hrow hdj hx1 hbk hMl hrl
   go_wp2_with (at_builtin;refine q0M rfl _ _ 43 rfl wb.heap.size 85 _ 3 40 Tryz.underlying43 Tryz.infoEv (by decide) (by decide) _ j (q5A M) rfl (q0J HRj.out (q0B _ _)) _ 1 1 (evc ⟨ty,da,we⟩) rfl rfl (fun h=>by cases h) HRl.out (by unfold evc;simp[Value.oneCell']) (by unfold maxLen;omega) (by omega) (by have:=HBs.out;simp;omega) ?_;intro v2 w8 hown hgrow hat;obtain ⟨a2,k2,rfl⟩:=q0G hown;have HO:=η45 hown;have HR8:=η45 (SK.row1 (K:=KT) (vq:= .slice ia j ic) HKj.out (Nat.le_refl _) HRj.out hown hgrow hat HDj.out);clear hown hgrow hat)
   go_roundw
   case rel=>
    refine ⟨j+1,_,M++[⟨ty,da,we⟩],rfl,by go_num,by omega,HM2,HR8.out.1,fun i hi=>((HR8.out.2.1 i hi).trans (HSx.out i hi)).trans (HSj.out i hi),?_,HR8.out.2.2⟩;rw[q4y,List.length_append,HMl.out];exact HO.out
   case measure=>simp[intOf];omega
  ·obtain rfl:j=nT:=by omega
   have hd2:decide ((j:Int)<(j:Int))=false:=decide_eq_false (by omega);have hMR:M=R.map To.e:=by rw[←HM.out,List.take_of_length_le (by rw[List.length_map,HnT.out];exact Nat.le_refl _)]
   have hst:Stay K w wr:=fun i hi=>(hsy i (HKT.out i hi)).trans (HS3.out i hi)
   have hevL:=HX.out wr hsk.base hst;obtain ⟨ia',ic',e1,hevI⟩:=Evs.of_own (Own.of_row hrow)
   cases e1;have HAl:=η45 (y1I wr hevI hevL (by omega) hk);have HSt:=η45 hst;have HKf:=η45 (hsk.beside fun i hi=> .inl (HKT.out i hi));have hzz:q0v M L=z:=by
    have h1:=HTh.out;rw[hMR,h1]
    cases hL:L with
    |nil=>exact absurd hL HL.out
    |cons a l=>simp
   have HZ:=η45 hzz;clear hsk hsy hrow hdj hst hevL hevI hMR hzz hMl;go_wp2_with fail;refine HAl.out.mono ?_;rintro e w5 ⟨rfl,hx5⟩;have HK5:=η45 (HKf.out.grow hx5);have HS5:Hid (Stay K w w5):=η45 fun i hi=>(HKf.out.kExt hx5 i hi).trans (HSt.out i hi)
   clear hx5 HAl;go_wp2_with fail;go_ret;exact ⟨by rw[←HZ.out];rfl,HK5.out,HS5.out⟩
end
end
section
open Go.RowKit
variable {w :World} {p:Option Addr}
end
section
open Go.RowKit
theorem z6d {A:List Acm} {m:Int} (h:q6J A m=false):(A.length:Int)≤m∧ ∀x∈A,x.st.length≤300∧x.n≤20∧ ∀e∈x.L,e.ty.length≤300∧e.da.length≤300:=by
 unfold q6J at h;rw[Bool.or_eq_false_iff] at h;refine ⟨by have:=of_decide_eq_false h.2;omega,fun x hx=>?_⟩;have h1:=List.any_eq_false.1 h.1 x hx;unfold q3X at h1;simp only[Bool.or_eq_true,not_or,decide_eq_true_eq] at h1;refine ⟨by omega,by omega,fun e he=>?_⟩;have h2:=List.any_eq_false.1 (by simpa using h1.2) e he;unfold q5I at h2;simp only[Bool.or_eq_true,not_or,decide_eq_true_eq] at h2;omega
end
end Go.Proofs.YthdekbmdkpcooaaGreatDoor
