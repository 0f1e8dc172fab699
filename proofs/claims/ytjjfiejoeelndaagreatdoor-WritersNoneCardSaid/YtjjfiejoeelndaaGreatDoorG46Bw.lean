/- The shelf's contract of slices.Reverse at []api.Told at this seat, in plain words: written by a tool of the kit (lay-plain) from a short module of mine, turned into a template. Walks: pages down (store.Backward): events turned about (slices.Reverse). A store at ease: the batches it has, how much was done with it. Plain laws: what a writer of a stream is told. Walks: a store on a new disk (law26's opened); the chapter's store (stored). A store at ease, with rows beside it that grow; streams that grow. Walks: a writer of a stream (writers.Open, Write, At). Walks: what a store that is none answers. Walks: law StoreNone. -/
import Derived.Shelf.SlicesQ.Reverse
import Derived.Ground.SlgnProg
import Derived.Test.YtjjfiejoeelndaaGreatDoorProg
import Derived.Test.YtjjfiejoeelndaaGreatDoorG45Bw
import Derived.Lib.OwnBridge
import Derived.Test.YtjjfiejoeelndaaGreatDoorG27Bw
import Derived.Test.YtjjfiejoeelndaaGreatDoorG44Bw
import Derived.Test.YtjjfiejoeelndaaGreatDoorG33Bw
import Derived.Test.YtjjfiejoeelndaaGreatDoorG42Bw
import Derived.Test.YtjjfiejoeelndaaGreatDoorG41Bw
set_option linter.unusedVariables false
set_option linter.unusedSimpArgs false
namespace Go.Proofs
open Go.Shelf
end Go.Proofs
namespace Go.Proofs.YtjjfiejoeelndaaGreatDoor
open Go.RowKit Go.Sort Go.Lib
set_option maxRecDepth 100000
set_option linter.unusedVariables false
set_option maxHeartbeats 6400000
instance : Inhabited To:=⟨to0⟩
section
variable {wb w W W1 W2:World} {g gl gs gx rate:Nat} {m:Man} {ws:List En} {c s sd:Int} {u cnt:Nat} {B:List En} {C:Cks} {P:Pbs} {sure:Int} {K K':Nat→Prop}
end
end Go.Proofs.YtjjfiejoeelndaaGreatDoor
namespace Go.Proofs.YtjjfiejoeelndaaGreatDoor
open Go.RowKit
set_option maxRecDepth 100000
set_option linter.unusedVariables false
set_option maxHeartbeats 6400000
theorem z0I : ∀(C:Cks) (b:Nat),(∀ps∈C,ps≠[])→C.length≤(q0v b C).length
  |[],_,_=>Nat.le_refl _
  | ps::t,b,h=>by
    have h1:=z0I t (b+4096) fun q hq=>h q (.tail _ hq)
    have h2:0<ps.length:=List.length_pos_iff.2 (h ps (.head _))
    rw[q0v,List.length_append,q4F,List.length_cons]
    omega
theorem z4j {bs:List Bt} (h:okBs bs):(tos bs).length≤8*bs.length:=by
  induction bs using q8t with
  |h0=>exact Nat.le_refl _
  | h1 l b ih=>
    obtain ⟨h1,h2,_⟩:=okBs_snoc.1 h
    have h3:=(q0i h2.1).2.2.2.1
    have h4:=ih h1
    rw[q4O,q8g,List.length_append,q3c,List.length_append,List.length_singleton]
    omega
def SK (wb W:World) (g gs rate:Nat) (sd c s:Int) (u n:Nat) (bs:List Bt) (K:Nat→Prop):Prop:=
  ∃gl gx m ws B C sure P,StoP wb W g gs gl gx rate m ws sd c s u (40+3*n) B C sure P K∧q1r P=bs∧m.nx≤n∧bs.length≤n∧0≤sd∧sd<18446744073709551616
def SQ (wb W:World) (g:Nat) (sd c s:Int) (u n:Nat) (bs:List Bt) (K:Nat→Prop):Prop:=
  ∃m B C P,DKQ wb W g m c s u (40+3*n) B C K∧y1v sd m B C P∧B.Nodup∧q1r P=bs∧m.nx≤n∧bs.length≤n∧0≤sd∧sd<18446744073709551616
section
variable {wb w W W':World} {g gs rate u n:Nat} {sd c s:Int} {bs:List Bt} {K K':Nat→Prop}
theorem StoP.bounds {gl gx:Nat} {m:Man} {ws:List En} {cnt:Nat} {B:List En} {C:Cks} {sure:Int} {P:Pbs} (h:StoP wb W g gs gl gx rate m ws sd c s u cnt B C sure P K) (hb:q1r P=bs) (hn:bs.length≤n):
    (tos bs).length≤8*n∧B.length≤8*n∧C.length≤n∧okBs bs:=by
  have hok:okBs bs:=hb▸h.stE.ok
  have h1:=z4j hok
  have h2:=h.len
  rw[hb] at h2
  have h3:=z0I C 0 h.i.cOk.full
  rw[h.recE,q7K] at h3
  have h4:bs.length=P.length:=by rw[←hb];exact List.length_map _
  exact ⟨by omega,by omega,by omega,hok⟩
theorem SK.base (h:SK wb W g gs rate sd c s u n bs K):Ext wb W:=by
  obtain ⟨gl,gx,m,ws,B,C,sure,P,h1,_⟩:=h
  exact h1.base
theorem SK.klt (h:SK wb W g gs rate sd c s u n bs K): ∀i,K i→i<W.heap.size:=by
  obtain ⟨gl,gx,m,ws,B,C,sure,P,h1,_⟩:=h
  exact h1.klt
theorem SK.grow (h:SK wb W g gs rate sd c s u n bs K) (k:Ext W W'):SK wb W' g gs rate sd c s u n bs K:=by
  obtain ⟨gl,gx,m,ws,B,C,sure,P,h1,h2⟩:=h
  exact ⟨gl,gx,m,ws,B,C,sure,P,h1.grow k,h2⟩
theorem SK.kExt (h:SK wb W g gs rate sd c s u n bs K) (k:Ext W W'):Stay K W W':=fun i hi=>k.block i (h.klt i hi)
theorem SK.more (h:SK wb W g gs rate sd c s u n bs K) (k:Ext W W') (hK: ∀i,K' i→K i∨(W.heap.size≤i∧i<W'.heap.size)):SK wb W' g gs rate sd c s u n bs K':=by
  obtain ⟨gl,gx,m,ws,B,C,sure,P,h1,h2⟩:=h
  exact ⟨gl,gx,m,ws,B,C,sure,P,h1.more k hK,h2⟩
theorem SK.beside (h:SK wb W g gs rate sd c s u n bs K) (k: ∀i,K' i→K i):SK wb W g gs rate sd c s u n bs K':=by
  obtain ⟨gl,gx,m,ws,B,C,sure,P,h1,h2⟩:=h
  exact ⟨gl,gx,m,ws,B,C,sure,P,h1.beside k,h2⟩
theorem SK.sideM (h:SK wb W g gs rate sd c s u n bs K) (hs:W.heap.size≤W'.heap.size) (hx:Ext wb W') (k: ∀i,i<W.heap.size→¬K i→W'.heap[i]? =W.heap[i]?) (hK: ∀i,K' i→K i∨(W.heap.size≤i∧i<W'.heap.size)):SK wb W' g gs rate sd c s u n bs K':=by
  obtain ⟨gl,gx,m,ws,B,C,sure,P,h1,h2⟩:=h
  exact ⟨gl,gx,m,ws,B,C,sure,P,h1.sideM hs hx k hK,h2⟩
def EvR (wb w:World) (g gs rate:Nat) (sd c s:Int) (u n:Nat) (bs:List Bt) (K:Nat→Prop) (R:List To) (z:Int) (e:Ending) (w':World):Prop:=
  ∃v,e= .returned (.tuple #[v,.int .i64 z])∧SK wb w' g gs rate sd c s u n bs (fun i=>K i∨v.ownBlock=some i)∧Stay K w w'∧w'.ownsRow wb.heap.size 76 5 v R.length (q9S R)∧ ∀i,K i→v.ownBlock≠some i
theorem SK.last (h:SK wb w g gs rate sd c s u n bs K) (hn:n≤1000) (str:List UInt8) (hs:str.length≤4611686018427387903) {x y:Int} (hr:q6K bs str=(x,y)):
    Calls Tryz.prog 13 #[.pointer (some ⟨gs,0,none⟩),.string ⟨str.toArray⟩] w fun e w'=>e= .returned (.tuple #[.int .i64 x,.int .i64 y])∧SK wb w' g gs rate sd c s u n bs K∧Stay K w w':=by
  obtain ⟨gl,gx,m,ws,B,C,sure,P,h1,rfl,h3,h4,h5⟩:=h
  obtain ⟨b1,b2,b3,b4⟩:=h1.bounds rfl h4
  have b5:=q6R (q1r P) str
  refine (z4i h1 str hs (by omega) (by omega) hr).mono ?_
  rintro e w' ⟨rfl,k1,k2⟩
  exact ⟨rfl,⟨gl,gx,m,ws,B,C,sure,P,k1,rfl,h3,h4,h5⟩,k2⟩
theorem SK.forward (h:SK wb w g gs rate sd c s u n bs K) (hn:n≤1000) (str:List UInt8) (hs:str.length≤4611686018427387903) (fr ct:Int) (hf0: -9223372036854775808≤fr) (hf1:fr≤9223372036854775807):
    Calls Tryz.prog 27 #[.pointer (some ⟨gs,0,none⟩),.string ⟨str.toArray⟩,.int .i64 fr,.int .i64 ct] w (EvR wb w g gs rate sd c s u n bs K (z4N bs str fr ct) (q4a str fr ct)):=by
  obtain ⟨gl,gx,m,ws,B,C,sure,P,h1,rfl,h3,h4,h5⟩:=h
  obtain ⟨b1,b2,b3,b4⟩:=h1.bounds rfl h4
  have b5:=q6R (q1r P) str
  refine (z4A h1 str hs fr ct hf0 hf1 (by omega) (by omega)).mono ?_
  rintro e w' ⟨v,rfl,k1,k2⟩
  exact ⟨v,rfl,⟨gl,gx,m,ws,B,C,sure,P,k1,rfl,h3,h4,h5⟩,k2⟩
theorem SK.flush (h:SK wb w g gs rate sd c s u n bs K):Calls Tryz.prog 29 #[.pointer (some ⟨gs,0,none⟩)] w fun e w'=>e= .returned (.int .i64 0)∧SK wb w' g gs rate sd c s u n bs K∧Stay K w w':=by
  obtain ⟨gl,gx,m,ws,B,C,sure,P,h1,h2⟩:=h
  refine (z7W h1).mono ?_
  rintro e w' ⟨rfl,k1,k2⟩
  exact ⟨rfl,⟨gl,gx,m,ws,B,C,_,P,k1,h2⟩,k2⟩
theorem SK.append (h:SK wb w g gs rate sd c s u n bs K) (hn:n≤86) (str:List UInt8) (hs:str.length≤4611686018427387903) (ex:Int) {ao:Option Addr} {k cap:Nat} {L:List Ev} (hx: ∀W,Ext wb W→Stay K w W→Evs W ao k cap L) (hL:q1j L)
    (hwe: ∀e∈L,e.we<18446744073709551616) {z:Int} (hz:q7E bs str ex L=z):
    Calls Tryz.prog 17 #[.pointer (some ⟨gs,0,none⟩),.string ⟨str.toArray⟩,.int .i64 ex,.slice ao k cap] w fun e w'=>
      ∃ x y bs',e= .returned (.tuple #[.int .i64 x,.int .i64 y])∧SK wb w' g gs rate sd c s (u+2024) (n+1) bs' K∧Stay K w w'∧
        ((z≠0∧x=0∧y=z∧bs'=bs)∨(z=0∧x=0∧y=60∧bs'=bs∧c-(u:Int)-2024<6000)∨(z=0∧x=((q0y bs str).length:Int)∧y=0∧bs'=bs++[⟨str,(q0y bs str).length,L⟩])):=by
  obtain ⟨gl,gx,m,ws,B,C,sure,P,h1,rfl,h3,h4,h5⟩:=h
  obtain ⟨b1,b2,b3,b4⟩:=h1.bounds rfl h4
  have b5:=q6R (q1r P) str
  refine (z5q h1 str hs ex hx hL hwe (by omega) (by omega) (by omega)).mono ?_
  rw[hz]
  rintro e w' ⟨⟨k0,rfl,k1⟩|⟨rfl,rfl,k1,k3⟩|⟨rfl,k3,pos,ws',B',C',sure',rfl,k1⟩,k2⟩
  · exact ⟨_,_,_,rfl,⟨gl,gx,m,ws,B,C,sure,P,k1.mono (by omega) (by omega),rfl,by omega,by omega,h5⟩,k2,.inl ⟨k0,rfl,rfl,rfl⟩⟩
  · exact ⟨_,_,_,rfl,⟨gl,gx,m,ws,B,C,sure,P,k1.mono (by omega) (by omega),rfl,by omega,by omega,h5⟩,k2,.inr (.inl ⟨rfl,rfl,rfl,rfl,by omega⟩)⟩
  · exact ⟨_,_,_,rfl,⟨gl,gx,m,ws',B',C',sure',_,k1.mono (by omega) (by omega),rfl,by omega,by rw[q5S,List.length_append,List.length_singleton];omega,h5⟩,k2,.inr (.inr ⟨rfl,rfl,rfl,q5S _ _ _⟩)⟩
theorem SQ.open (h:SQ wb w g sd c s u n bs K) (hn:n≤200) (rate:Nat):Calls Tryz.prog 26 #[.pointer (some ⟨g,0,none⟩),.int .u64 sd,.float .f64 rate] w fun e w'=>
    ∃gs,e= .returned (.tuple #[.pointer (some ⟨gs,0,none⟩),.int .i64 0])∧SK wb w' g gs rate sd c s u n bs K∧Stay K w w':=by
  obtain ⟨m,B,C,P,h1,h2,h3,rfl,h4,h5,h6,h7⟩:=h
  have h8:=z4j h2.ok
  refine (z8x h1 h2 h6 h7 (by omega) (by omega) h3 rate).mono ?_
  rintro e w' ⟨gs,gl,gx,m',ws,B',sure,rfl,k1,k2,k3⟩
  exact ⟨gs,rfl,⟨gl,gx,m',ws,B',C,sure,P,k1,rfl,by omega,h5,h6,h7⟩,k3⟩
theorem DkK.sq (h:DkK noO wb w g c s [] K) (sd:Int) (hs0:0≤sd) (hs1:sd<18446744073709551616):SQ wb w g sd c s 0 0 [] K:=by
  obtain ⟨F,σ,h1,h2⟩:=h
  have hpl:Pl σ c s []:=by have:=h2.pl;simpa [q2E,noO,q2G,q5c,q3C,q3t] using this
  have hv:q0c 0 0 []=true:=by decide
  refine ⟨⟨0,0,sd,[]⟩,[],[],[],⟨⟨⟨0,0,sd,[]⟩,0,[],fun _=>none,0⟩,σ,fun _=>none,F,rfl,rfl,h1,⟨⟨⟨[],hpl,List.Pairwise.nil,fun _=>rfl,Nat.zero_le _,Nat.zero_le _⟩,⟨hv,hs0,hs1⟩,(fun n hn=>by cases hn),(fun n e he=>by cases he),(fun nm hn=>absurd rfl hn),okM.nil,okM.nil,fun x=>?_⟩,.inr ⟨rfl,rfl,rfl,rfl⟩,fun k _=>by simp⟩,okC.nil⟩,
    ⟨rfl,rfl,okBs.nil,(fun x hx=>by cases hx),(fun x hx=>by cases hx),by show (0:Int)≤q4k [];rw[z2D];decide⟩,List.nodup_nil,rfl,Int.le_refl _,Nat.le_refl _,hs0,hs1⟩
  constructor
  · intro hx;cases hx
  · rintro (hx|⟨n,e,he,_⟩)
    · cases hx
    · cases he
end
end Go.Proofs.YtjjfiejoeelndaaGreatDoor
namespace Go.Proofs.YtjjfiejoeelndaaGreatDoor
open Go.RowKit
set_option linter.unusedVariables false
def q4f (bs:List Bt) (str:List UInt8) (a:Int) (L:List Ev):Bool:=!L.isEmpty&&q1L ((z4N bs str (a+1) (L.length:Int)).map To.e) L
def wrN (bs:List Bt) (str:List UInt8) (a:Int) (L:List Ev):Int×Bool×Int:=
  if q7E bs str a L=0 then (a+1,false,0) else if q7E bs str a L=80∧q4f bs str a L=true then (a+1,true,0) else (0,false,q7E bs str a L)
def wrB (bs:List Bt) (str:List UInt8) (a:Int) (L:List Ev):List Bt:=
  if q7E bs str a L=0 then bs++[⟨str,(q0y bs str).length,L⟩] else bs
def wrA (bs:List Bt) (str:List UInt8) (a:Int) (L:List Ev):Int:=if (wrN bs str a L).2.2=0 then a+(L.length:Int) else a
def z4O (bs:List Bt) (str:List UInt8) (a:Int):Int:=
  if (q6K bs str).2≠0 then (q6K bs str).2 else if a< -1 then 2 else if (q6K bs str).1<a then 80 else 0
end Go.Proofs.YtjjfiejoeelndaaGreatDoor
namespace Go.Proofs.YtjjfiejoeelndaaGreatDoor
open Go.RowKit
set_option maxRecDepth 100000
set_option linter.unusedVariables false
set_option maxHeartbeats 6400000
theorem DkK.rebase {E:Oth} {wa wb w:World} {g:Nat} {c s:Int} {C:Cks} {K:Nat→Prop} (h:DkK E wb w g c s C K) (k:Ext wa wb):DkK E wa w g c s C K:=by
  obtain ⟨F,σ,h1,h2⟩:=h
  have hs:=k.size
  exact ⟨F,σ,⟨h1.d,fun i hi=>by have:=h1.bF i hi;omega,k.trans h1.ext,h1.k⟩,h2⟩
theorem DkK.base {E:Oth} {wb w:World} {g:Nat} {c s:Int} {C:Cks} {K:Nat→Prop} (h:DkK E wb w g c s C K):Ext wb w:=by
  obtain ⟨F,σ,h1,h2⟩:=h
  exact h1.ext
theorem Blk.rd {w:World} {b:Nat} {t:TypeId} {cs:Array Value} (h:Blk w b t cs):Rd w (some ⟨b,0,none⟩) cs.toList:=fun j u hj=>⟨b,0,rfl,by rw[Nat.zero_add,h.cell j];simpa using hj⟩
theorem Blk.evs {w:World} {b:Nat} {t:TypeId} {L:List Ev} (h:Blk w b t (q4t L).toArray) {k:Nat} (hk:k≤L.length) (hl:L.length≤1000000):Evs w (some ⟨b,0,none⟩) k L.length (L.take k):=by
  refine ⟨by rw[List.length_take];omega,hk,by omega,(fun e=>by cases e),?_⟩
  have h1:=h.rd.take (k*3)
  have e:(q4t L).take (k*3)=q4t (L.take k):=by
    conv=>lhs;rw[←List.take_append_drop k L,q3j]
    exact List.take_left' (by rw[q4n,List.length_take];omega)
  rw[←e]
  simpa using h1
theorem z5v {w:World} {B:Nat} {e:TypeId} {ao:Option Addr} {n cp:Nat} {L:List To} (h:w.ownsRow B e 5 (.slice ao n cp) L.length (q9S L)):Tos w ao n cp L∧n=L.length:=by
  obtain ⟨a,c,e1,h2⟩:=Tos.of_own (Own.of_row h)
  cases e1
  exact ⟨h2,rfl⟩
abbrev evA :Ev:=⟨[97],[],0⟩
abbrev z3R :Ev:=⟨[98],[],0⟩
abbrev st1 :Bt:=⟨[115],0,[evA,z3R]⟩
theorem q2h {L:List Ev} (h: ∀e∈L,e.ty.length≤300∧e.da.length≤300):q1j L:=fun e he=>by have:=h e he;omega
end Go.Proofs.YtjjfiejoeelndaaGreatDoor
namespace Go.Proofs.YtjjfiejoeelndaaGreatDoor
open Go.RowKit
set_option maxRecDepth 100000
set_option linter.unusedVariables false
set_option maxHeartbeats 6400000
section
variable {wb w W W1 W2:World} {g gs rate u n:Nat} {sd c s:Int} {bs:List Bt} {K K':Nat→Prop}
theorem SK.row0 {m m1 sz base:Nat} {vq v2:Value} {ys ys1:List Value} {ti:TypeId} (h:SK wb W g gs rate sd c s u n bs (fun i=>K i∨vq.ownBlock=some i)) (hb:wb.heap.size≤base) (hq:W.ownsRow base ti sz vq m ys)
    (h2:W2.ownsRow base ti sz v2 m1 ys1) (g2:W.grownBy W2 vq.ownBlock) (a2:v2.ownBlock=vq.ownBlock∨v2.ownBlock=some W.heap.size) (hd: ∀i,K i→vq.ownBlock≠some i):
    SK wb W2 g gs rate sd c s u n bs (fun i=>K i∨v2.ownBlock=some i)∧Stay K W W2∧ ∀i,K i→v2.ownBlock≠some i:=by
  have s2:=g2.size
  have hqb: ∀i,vq.ownBlock=some i→base≤i∧i<W.heap.size:=q0W hq
  have e2: ∀i,i<W.heap.size→vq.ownBlock≠some i→W2.heap[i]? =W.heap[i]? :=fun i hi hn=>g2.block i hi fun e=>hn e.symm
  have hx0:=h.base
  have hx2:Ext wb W2:=Below.grown hx0 g2 hx0.size fun k hk=>by have:=(hqb k hk).1;omega
  refine ⟨h.sideM s2 hx2 (fun i hi hn=>e2 i hi fun e=>hn (.inr e)) fun i hi=>?_,fun i hi=>e2 i (h.klt i (.inl hi)) (hd i hi),fun i hi e=>?_⟩
  · rcases hi with hi|hi
    · exact .inl (.inl hi)
    · rcases a2 with k|k
      · exact .inl (.inr (k.symm.trans hi))
      · have hlt:=(q0W h2 i hi).2
        rw[k] at hi
        cases hi
        right;omega
  · rcases a2 with k|k
    · exact hd i hi (k.symm.trans e)
    · rw[k] at e
      cases e
      have:=h.klt _ (.inl hi);omega
theorem SK.row1 {m m1 sz base:Nat} {vq v2:Value} {ys ys1:List Value} {l2:Obj} {ti:TypeId} (h:SK wb W g gs rate sd c s u n bs (fun i=>K i∨vq.ownBlock=some i)) (hb:wb.heap.size≤base) (hq:W.ownsRow base ti sz vq m ys)
    (h2:W2.ownsRow base ti sz v2 m1 ys1) (g2:(W.alloc l2).grownBy W2 vq.ownBlock) (a2:v2.ownBlock=vq.ownBlock∨v2.ownBlock=some (W.alloc l2).heap.size) (hd: ∀i,K i→vq.ownBlock≠some i):
    SK wb W2 g gs rate sd c s u n bs (fun i=>K i∨v2.ownBlock=some i)∧Stay K W W2∧ ∀i,K i→v2.ownBlock≠some i:=by
  obtain ⟨h1,h3,h4⟩:=(h.grow (q0B W l2)).row0 hb (q0L hq (q0B W l2)) h2 g2 a2 hd
  exact ⟨h1,fun i hi=>(h3 i hi).trans ((q0B W l2).block i (h.klt i (.inl hi))),h4⟩
end
end Go.Proofs.YtjjfiejoeelndaaGreatDoor
namespace Go.Proofs.YtjjfiejoeelndaaGreatDoor
open Go.RowKit
set_option maxRecDepth 100000
set_option linter.unusedVariables false
set_option maxHeartbeats 6400000
section
variable {wb w W W':World} {g gs gw rate u n:Nat} {sd c s:Int} {bs:List Bt} {K K':Nat→Prop}
def WrI (W:World) (gw gs:Nat) (str:List UInt8) (a:Int):Prop:=Blk W gw 51 #[.pointer (some ⟨gs,0,none⟩),.string ⟨str.toArray⟩,.int .i64 a]
theorem q3f (h:SK wb w g gs rate sd c s u n bs K) (hn:n≤1000) (str:List UInt8) (hs:str.length≤4611686018427387903) (a:Int):
    Calls Tryz.prog 11 #[.pointer (some ⟨gs,0,none⟩),.string ⟨str.toArray⟩,.int .i64 a] w fun e w'=>Ext wb w'∧Stay K w w'∧
      ((z4O bs str a≠0∧e= .returned (.tuple #[.pointer none,.int .i64 (z4O bs str a)])∧SK wb w' g gs rate sd c s u n bs K)∨
      (z4O bs str a=0∧ ∃gw,e= .returned (.tuple #[.pointer (some ⟨gw,0,none⟩),.int .i64 0])∧WrI w' gw gs str a∧¬K gw∧wb.heap.size≤gw∧SK wb w' g gs rate sd c s u n bs (fun i=>K i∨i=gw))):=by
  obtain ⟨x,y,hxy⟩: ∃x y,q6K bs str=(x,y):=⟨_,_,rfl⟩
  have HL:=Lib.hid (h.last hn str hs hxy)
  have hz:z4O bs str a=if y≠0 then y else if a< -1 then 2 else if x<a then 80 else 0:=by unfold z4O;rw[hxy]
  have HZ:=Lib.hid hz
  clear h hxy hz
  generalize z4O bs str a=z at*
  go_enter Tryz.func11,Tryz.ntmps11
  go_wp2_with fail
  refine HL.out.mono ?_
  rintro e w1 ⟨rfl,h1,h2⟩
  have HK:=Lib.hid h1;have HS:=Lib.hid h2
  clear h1 h2 HL
  by_cases hy:y=0
  · have hd0:(y !=(0:Int))=false:=by rw[hy];rfl
    by_cases ha:a< -1
    · have hd1:decide (a<(-1:Int))=true:=decide_eq_true ha
      have HZ1:Hid (z=2):=Lib.hid (by have:=HZ.out;rw[if_neg (by omega),if_pos ha] at this;exact this)
      clear ha
      go_wp2_with fail
      go_ret2
      exact ⟨HK.out.base,HS.out,.inl ⟨by rw[HZ1.out];decide,by rw[HZ1.out];rfl,HK.out⟩⟩
    · have hd1:decide (a<(-1:Int))=false:=decide_eq_false ha
      by_cases hx:x<a
      · have hd2:decide (x<a)=true:=decide_eq_true hx
        have HZ1:Hid (z=80):=Lib.hid (by have:=HZ.out;rw[if_neg (by omega),if_neg ha,if_pos hx] at this;exact this)
        clear ha hx
        go_wp2_with fail
        go_ret2
        exact ⟨HK.out.base,HS.out,.inl ⟨by rw[HZ1.out];decide,by rw[HZ1.out];rfl,HK.out⟩⟩
      · have hd2:decide (x<a)=false:=decide_eq_false hx
        have HZ1:Hid (z=0):=Lib.hid (by have:=HZ.out;rw[if_neg (by omega),if_neg ha,if_neg hx] at this;exact this)
        clear ha hx
        go_wp2_with fail
        go_ret2
        have hx1:=q0B w1 (.cells #[.pointer (some ⟨gs,0,none⟩),.string ⟨str.toArray⟩,.int .i64 a] 51)
        refine ⟨HK.out.base.trans hx1,fun i hi=>(hx1.block i (HK.out.klt i hi)).trans (HS.out i hi),.inr ⟨HZ1.out,_,rfl,Blk.new w1 _ _,fun hk=>Nat.lt_irrefl _ (HK.out.klt _ hk),HK.out.base.size,HK.out.more hx1 fun i hi=>?_⟩⟩
        rcases hi with hi|hi
        · exact .inl hi
        · exact .inr ⟨by omega,by rw[World.size_alloc];omega⟩
  · have hd0:(y !=(0:Int))=true:=by simpa using hy
    have HZ1:Hid (z=y):=Lib.hid (by have:=HZ.out;rw[if_pos hy] at this;exact this)
    go_wp2_with fail
    go_ret2
    exact ⟨HK.out.base,HS.out,.inl ⟨by rw[HZ1.out];exact hy,by rw[HZ1.out];rfl,HK.out⟩⟩
theorem z4E {str:List UInt8} {a:Int} (h:WrI w gw gs str a):Calls Tryz.prog 14 #[.pointer (some ⟨gw,0,none⟩)] w fun e w'=>e= .returned (.int .i64 a)∧w=w':=by
  have k0:=h.cell 0;have k2:=h.cell 2
  clear h
  go_enter Tryz.func14,Tryz.ntmps14
  go_wp2_with fail
  go_ret
  exact ⟨rfl,rfl⟩
theorem WrI.same {W W':World} {str:List UInt8} {a:Int} (h:WrI W gw gs str a) (k:W'.heap[gw]? =W.heap[gw]?):WrI W' gw gs str a:=Blk.same h k
theorem z9k (h:SK wb w g gs rate sd c s u n bs K) (hn:n≤1000) {str:List UInt8} {a:Int} (hw:WrI w gw gs str a) (hgw:K gw) (hs:str.length≤4611686018427387903) (ha: -1≤a) (ha2:a≤1000000000) {ao:Option Addr} {k cap:Nat} {L:List Ev} (hx: ∀W,Ext wb W→Stay K w W→Evs W ao k cap L) (hk:k≤1000000):
    Calls Tryz.prog 35 #[.pointer (some ⟨gw,0,none⟩),.slice ao k cap] w fun e w'=>e= .returned (.bool (q4f bs str a L))∧SK wb w' g gs rate sd c s u n bs K∧Stay K w w':=by
  have hev:=hx w h.base (Stay.refl _ _)
  have hlen:=hev.len
  have hq:=hev.fits;have hq2:=hev.bound
  have HX:=Lib.hid hx
  have HK:=Lib.hid h
  have HF:=Lib.hid ((h.grow (Ext.refl _).drew).forward hn str hs (a+1) (k:Int) (by omega) (by omega))
  have k0:=hw.cell 0;have k1:=hw.cell 1;have k2:=hw.cell 2
  have q1:IntKind.i64.wrap (a+1)=a+1:=by rw[IntKind.wrap_i64];omega
  have hth:q4f bs str a L=(!L.isEmpty&&q1L ((z4N bs str (a+1) (k:Int)).map To.e) L):=by unfold q4f;rw[hlen]
  have HTh:=Lib.hid hth
  have HB:=Lib.hid h.base
  clear hx h hw hev hth
  generalize q4f bs str a L=z at*
  go_enter Tryz.func35,Tryz.ntmps35
  by_cases hk0:k=0
  · have hd0:((k:Int)==0)=true:=by rw[hk0];rfl
    have hL:L=[]:=List.eq_nil_of_length_eq_zero (by omega)
    have hz:z=false:=by have:=HTh.out;rw[hL] at this;simpa using this
    clear hlen
    go_wp2_with fail
    go_ret
    exact ⟨by rw[hz];rfl,HK.out,Stay.refl _ _⟩
  have hd0:((k:Int)==0)=false:=by simpa using hk0
  have hkL:L≠[]:=fun e=>by rw[e] at hlen;simp at hlen;omega
  have HL:=Lib.hid hkL
  obtain ⟨R,hR⟩: ∃R,z4N bs str (a+1) (k:Int)=R:=⟨_,rfl⟩
  obtain ⟨y,hy⟩: ∃y,q4a str (a+1) (k:Int)=y:=⟨_,rfl⟩
  have HR:Hid (y≠0→R=[]):=Lib.hid fun h=>by rw[←hR];unfold z4N;rw[if_neg (by rw[hy];exact h)]
  have hRl:R.length≤k:=by
    rw[←hR];unfold z4N q6A
    split
    · rw[List.length_take];omega
    · simp
  rw[hR] at HTh
  rw[hR,hy] at HF
  have d0:=q0A (Ext.refl _).drew k0
  have d1:=q0A (Ext.refl _).drew k1
  have d2:=q0A (Ext.refl _).drew k2
  clear hR hy hkL
  go_wp2_with fail
  go_region_held3 (fun W=>W.cell? ⟨gw,0,none⟩=some (.pointer (some ⟨gs,0,none⟩))∧W.cell? ⟨gw,1,none⟩=some (.string ⟨str.toArray⟩)∧W.cell? ⟨gw,2,none⟩=some (.int .i64 a))
    (first|exact HC3.out|exact ⟨d0,d1,d2⟩)
    (first|(go_at_call 27;refine HF.out.mono ?_;rintro e w3 ⟨v,rfl,h1,h2,h3,h4⟩;obtain ⟨va,vc,rfl⟩:=q0I h3;have HK3:=Lib.hid h1;have HS3:Hid (Stay K w w3):=Lib.hid h2;have HR3:=Lib.hid h3;have HD3:=Lib.hid h4;have HC3:Hid (w3.cell? ⟨gw,0,none⟩=some (.pointer (some ⟨gs,0,none⟩))∧w3.cell? ⟨gw,1,none⟩=some (.string ⟨str.toArray⟩)∧w3.cell? ⟨gw,2,none⟩=some (.int .i64 a)):=Lib.hid ⟨(World.cell?_of_block (a:=⟨gw,0,none⟩) (h2 gw hgw)).trans k0,(World.cell?_of_block (a:=⟨gw,1,none⟩) (h2 gw hgw)).trans k1,(World.cell?_of_block (a:=⟨gw,2,none⟩) (h2 gw hgw)).trans k2⟩;clear h1 h2 h3 h4))
  clear HC3 d0 d1 d2 k0 k1 k2
  by_cases hy:y=0
  case neg=>
    have hd1:(y !=(0:Int))=true:=by simpa using hy
    have hz:z=false:=by
      have h1:=HTh.out
      rw[HR.out hy] at h1
      have h2:q1L (([]:List To).map To.e) L=false:=q4q (by rw[hlen];simp;omega)
      rw[h2,Bool.and_false] at h1
      exact h1
    clear hy
    go_wp2_with fail
    go_ret
    exact ⟨by rw[hz];rfl,HK3.out.beside fun i hi=> .inl hi,HS3.out⟩
  have hd1:(y !=(0:Int))=false:=by rw[hy];rfl
  have ht:=(z5v HR3.out).1
  obtain ⟨nT,hnT⟩: ∃nT,R.length=nT:=⟨_,rfl⟩
  have HnT:=Lib.hid hnT
  obtain ⟨KT,hKT⟩: ∃K':Nat→Prop,(fun i=>K i∨(Value.slice va R.length vc).ownBlock=some i)=K':=⟨_,rfl⟩
  have HKT:Hid (∀i,K i→KT i):=Lib.hid fun i hi=>by rw[←hKT];exact .inl hi
  have HTA:Hid (∀W,Stay KT w3 W→Tos W va nT vc R):=Lib.hid fun W kk=>by
    have:=(z5v (q1J HR3.out fun i hi=>kk i (by rw[←hKT];exact .inr hi))).1
    rwa [hnT] at this
  rw[hKT] at HK3
  rw[hnT] at hRl ht⊢
  have hq3:=ht.fits;have hq4:=ht.bound
  clear hy hKT HR3 HD3 hnT ht
  go_wp2_with fail
  go_loopw [7,36] (fun ov oi W=> ∃(j:Nat) (vI:Value) (M:List Ev),ov=vI∧oi= .int .i64 (j:Int)∧j≤nT∧Hid ((R.map To.e).take j=M)∧SK wb W g gs rate sd c s u n bs (fun i=>KT i∨vI.ownBlock=some i)∧Stay KT w3 W∧
    W.ownsRow wb.heap.size 48 3 vI M.length (q4t M)∧ ∀i,KT i→vI.ownBlock≠some i) (fun _ i _=>nT-(intOf i).toNat)
  case atStart=>exact ⟨0,_,[],rfl,rfl,Nat.zero_le _,Lib.hid (by simp),HK3.out.beside fun i hi=>(by rcases hi with hi|hi;exact hi;cases hi),Stay.refl _ _,⟨rfl,.inl ⟨rfl,rfl⟩⟩,fun i _ e=>by cases e⟩
  case round=>
    obtain ⟨j,vI,M,rfl,rfl,hj,HM,hsk,hsy,hrow,hdj⟩:=hrel
    obtain ⟨ia,ic,rfl⟩:=q0I hrow
    have hMl:M.length=j:=by rw[←HM.out,List.length_take,List.length_map,HnT.out];omega
    by_cases hlt:j<nT
    · have hd2:decide ((j:Int)<(nT:Int))=true:=decide_eq_true (by omega)
      have hji:(j:Int)<(nT:Int):=by omega
      have q8:IntKind.i64.wrap ((j:Int)+1)=(j:Int)+1:=by rw[IntKind.wrap_i64];omega
      obtain ⟨bb,off,rfl,c0,c1,c2,c3,c4⟩:=(HTA.out _ hsy).at hlt
      have HM2:Hid ((R.map To.e).take (j+1)=M++[(R.getD j to0).e]):=Lib.hid (by
        have h:=HnT.out
        rw[List.take_succ_eq_append_getElem (by rw[List.length_map];omega),HM.out,List.getElem_map,List.getD_eq_getElem?_getD,List.getElem?_eq_getElem (by omega)];rfl)
      generalize R.getD j to0=t at*
      obtain ⟨ts,tv,⟨ty,da,we⟩⟩:=t
      simp only at c0 c1 c2 c3 c4 HM2
      have hsf:=q1y
      have hx1:=q0B wr (.cells #[.string ⟨ts.toArray⟩,.int .i64 tv,.string ⟨ty.toArray⟩,.string ⟨da.toArray⟩,.float .f64 we] 76)
      have hbk:=Blk.new wr 76 #[.string ⟨ts.toArray⟩,.int .i64 tv,.string ⟨ty.toArray⟩,.string ⟨da.toArray⟩,.float .f64 we]
      have e0:=hbk.cell 0;have e1:=hbk.cell 1;have e2:=hbk.cell 2;have e3:=hbk.cell 3;have e4:=hbk.cell 4
      have HKj:=Lib.hid (hsk.grow hx1);have HSj:=Lib.hid hsy;have HDj:=Lib.hid hdj
      have HSx:Hid (Stay KT wr (wr.alloc (.cells #[.string ⟨ts.toArray⟩,.int .i64 tv,.string ⟨ty.toArray⟩,.string ⟨da.toArray⟩,.float .f64 we] 76))):=Lib.hid fun i hi=>hx1.block i (hsk.klt i (.inl hi))
      have hrl:=Rd.lit (wr.alloc (.cells #[.string ⟨ts.toArray⟩,.int .i64 tv,.string ⟨ty.toArray⟩,.string ⟨da.toArray⟩,.float .f64 we] 76)) #[.string ⟨ty.toArray⟩,.string ⟨da.toArray⟩,.float .f64 we] 48
      rw[World.size_alloc] at hrl
      have HRl:=Lib.hid hrl
      have HRj:=Lib.hid (q0L hrow hx1)
      have HBs:=Lib.hid hsk.base.size
      rw[hMl] at HKj HRj HDj⊢
      have HMl:=Lib.hid hMl
      clear hsk hsy hrow hdj hx1 hbk hMl hrl
      go_wp2_with (at_builtin;refine q0P rfl _ _ 22 rfl wb.heap.size 48 _ 3 40 Tryz.underlying22 Tryz.infoEv (by decide) (by decide) _ j (q4t M) rfl (q0L HRj.out (q0B _ _)) _ 1 1 (evc ⟨ty,da,we⟩) rfl rfl (fun h=>by cases h) HRl.out (by unfold evc;simp[Value.oneCell']) (by unfold maxLen;omega) (by omega) (by have:=HBs.out;simp;omega) ?_;intro v2 w8 hown hgrow hat;obtain ⟨a2,k2,rfl⟩:=q0I hown;have HO:=Lib.hid hown;have HR8:=Lib.hid (SK.row1 (K:=KT) (vq:= .slice ia j ic) HKj.out (Nat.le_refl _) HRj.out hown hgrow hat HDj.out);clear hown hgrow hat)
      go_roundw
      case rel=>
        refine ⟨j+1,_,M++[⟨ty,da,we⟩],rfl,by go_num,by omega,HM2,HR8.out.1,fun i hi=>((HR8.out.2.1 i hi).trans (HSx.out i hi)).trans (HSj.out i hi),?_,HR8.out.2.2⟩
        rw[q3j,List.length_append,HMl.out]
        exact HO.out
      case measure=>simp[intOf];omega
    · obtain rfl:j=nT:=by omega
      have hd2:decide ((j:Int)<(j:Int))=false:=decide_eq_false (by omega)
      have hMR:M=R.map To.e:=by rw[←HM.out,List.take_of_length_le (by rw[List.length_map,HnT.out];exact Nat.le_refl _)]
      have hst:Stay K w wr:=fun i hi=>(hsy i (HKT.out i hi)).trans (HS3.out i hi)
      have hevL:=HX.out wr hsk.base hst
      obtain ⟨ia',ic',e1,hevI⟩:=Evs.of_own (Own.of_row hrow)
      cases e1
      have HAl:=Lib.hid (z8C wr hevI hevL (by omega) hk)
      have HSt:=Lib.hid hst
      have HKf:=Lib.hid (hsk.beside fun i hi=> .inl (HKT.out i hi))
      have hzz:q1L M L=z:=by
        have h1:=HTh.out
        rw[hMR,h1]
        cases hL:L with
        |nil=>exact absurd hL HL.out
        |cons a l=>simp
      have HZ:=Lib.hid hzz
      clear hsk hsy hrow hdj hst hevL hevI hMR hzz hMl
      go_wp2_with fail
      refine HAl.out.mono ?_
      rintro e w5 ⟨rfl,hx5⟩
      have HK5:=Lib.hid (HKf.out.grow hx5)
      have HS5:Hid (Stay K w w5):=Lib.hid fun i hi=>(HKf.out.kExt hx5 i hi).trans (HSt.out i hi)
      clear hx5 HAl
      go_wp2_with fail
      go_ret
      exact ⟨by rw[←HZ.out];rfl,HK5.out,HS5.out⟩
end
end Go.Proofs.YtjjfiejoeelndaaGreatDoor
namespace Go.Proofs.YtjjfiejoeelndaaGreatDoor
open Go.RowKit
set_option maxRecDepth 100000
set_option linter.unusedVariables false
set_option maxHeartbeats 6400000
def y1y (w:World) (p:Option Addr):Prop:=p=none∨ ∃s,p=some ⟨s,0,none⟩∧Blk w s 86 #[.pointer none,.pointer none,.int .u64 0]
variable {w :World} {p:Option Addr}
theorem z9U (h:y1y w p):Calls Tryz.prog 36 #[.pointer p] w fun e w'=>e= .returned (.bool true)∧w=w':=by
  rcases h with rfl|⟨s,rfl,hb⟩
  · go_enter Tryz.func36,Tryz.ntmps36
    go_wp2_with fail
    go_ret
    exact ⟨rfl,rfl⟩
  · have c0:=hb.cell 0
    clear hb
    go_enter Tryz.func36,Tryz.ntmps36
    go_wp2_with fail
    go_ret
    exact ⟨rfl,rfl⟩
theorem z9h (h:y1y w p) (str:List UInt8):Calls Tryz.prog 13 #[.pointer p,.string ⟨str.toArray⟩] w fun e w'=>e= .returned (.tuple #[.int .i64 (-1),.int .i64 1])∧w=w':=by
  have HN:=Lib.hid (z9U h)
  clear h
  go_enter Tryz.func13,Tryz.ntmps13
  go_wp2_with fail
  refine HN.out.mono ?_
  rintro e w1 ⟨rfl,rfl⟩
  go_wp2_with fail
  go_ret2
  exact ⟨rfl,rfl⟩
end Go.Proofs.YtjjfiejoeelndaaGreatDoor
namespace Go.Proofs.YtjjfiejoeelndaaGreatDoor
open Go.RowKit
set_option maxRecDepth 100000
set_option linter.unusedVariables false
set_option maxHeartbeats 12800000
theorem z9Y (w:World) (x:Acm) (hx:Evs w x.ao x.n x.cap x.L) (hok:z9x x):Acs (w.alloc (.cells #[.int .u8 x.kd,.string ⟨x.st.toArray⟩,.int .i64 x.a,.int .i64 x.b,.slice x.ao x.n x.cap] 30)) (some ⟨w.heap.size,0,none⟩) 1 1 [x]:=by
  refine ⟨rfl,Nat.le_refl _,by omega,(fun h=>by cases h),?_,fun y hy=>?_,fun y hy=>?_⟩
  · intro j u hj
    have:=(Blk.new w 30 #[.int .u8 x.kd,.string ⟨x.st.toArray⟩,.int .i64 x.a,.int .i64 x.b,.slice x.ao x.n x.cap]).rd j u (by simpa [z9v,acc] using hj)
    exact this
  · rw[List.mem_singleton.1 hy];exact hx.ext (q0B _ _)
  · rw[List.mem_singleton.1 hy];exact hok
theorem z4Z {A:List Acm} {m:Int} (h:q5E A m=false):(A.length:Int)≤m∧ ∀x∈A,x.st.length≤300∧x.n≤20∧ ∀e∈x.L,e.ty.length≤300∧e.da.length≤300:=by
  unfold q5E at h
  rw[Bool.or_eq_false_iff] at h
  refine ⟨by have:=of_decide_eq_false h.2;omega,fun x hx=>?_⟩
  have h1:=List.any_eq_false.1 h.1 x hx
  unfold q3Q at h1
  simp only[Bool.or_eq_true,not_or,decide_eq_true_eq] at h1
  refine ⟨by omega,by omega,fun e he=>?_⟩
  have h2:=List.any_eq_false.1 (by simpa using h1.2) e he
  unfold q5R at h2
  simp only[Bool.or_eq_true,not_or,decide_eq_true_eq] at h2
  omega
end Go.Proofs.YtjjfiejoeelndaaGreatDoor
