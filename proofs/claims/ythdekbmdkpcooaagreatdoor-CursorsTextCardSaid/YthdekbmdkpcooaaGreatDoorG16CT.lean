/- Walks. -/
import Derived.Test.YthdekbmdkpcooaaGreatDoorG15CT
import Derived.Laws.ResultCell
import Derived.WalkSpells
set_option linter.unusedVariables false
set_option linter.unusedSimpArgs false
set_option maxRecDepth 100000
set_option maxHeartbeats 1600000
namespace Go.Proofs.YthdekbmdkpcooaaGreatDoor
section
open Go.RowKit
end
section
open Go.RowKit
def q0t (t d:List UInt8):Int:=if t=[] then 2 else if 16<t.length then 3 else if 200<d.length then 3 else 0
theorem q8z (t d:List UInt8) (k:FloatKind) (b:Nat) (w:World) (_ht:t.length≤4611686018427387903) (_hd:d.length≤4611686018427387903):
  Calls Tryz.prog 68 #[.agg #[.string ⟨t.toArray⟩,.string ⟨d.toArray⟩,.float k b]] w fun e w'=>e= .returned (.int .i64 (q0t t d))∧Ext w w':=by
 have HE:=Lib.hid (q0B w (.cells #[.string ⟨t.toArray⟩,.string ⟨d.toArray⟩,.float k b] 85));by_cases h0:t=[]
 ·subst h0
  have HN:Hid (q0t [] d=2):=Lib.hid (by unfold q0t;rw[if_pos rfl]);go_enter Tryz.func68,Tryz.ntmps68;go_wp2_with fail;go_ret;exact ⟨rn HN.out,HE.out⟩
 have h0b:(t==[])=false:=beq_eq_false_iff_ne.2 h0;by_cases h1:16<(t.length:Int)
 ·have HN:Hid (q0t t d=3):=Lib.hid (by unfold q0t;rw[if_neg h0,if_pos (by omega)])
  clear h0;go_enter Tryz.func68,Tryz.ntmps68;go_wp2_with fail;go_ret;exact ⟨rn HN.out,HE.out⟩
 by_cases h2:200<(d.length:Int)
 ·have HN:Hid (q0t t d=3):=Lib.hid (by unfold q0t;rw[if_neg h0,if_neg (by omega),if_pos (by omega)])
  clear h0;go_enter Tryz.func68,Tryz.ntmps68;go_wp2_with fail;go_ret;exact ⟨rn HN.out,HE.out⟩
 ·have HN:Hid (q0t t d=0):=Lib.hid (by unfold q0t;rw[if_neg h0,if_neg (by omega),if_neg (by omega)])
  clear h0;go_enter Tryz.func68,Tryz.ntmps68;go_wp2_with fail;go_ret;exact ⟨rn HN.out,HE.out⟩
end
section
open Go.RowKit
structure Ev where
 ty:List UInt8
 da:List UInt8
 we:Nat
def ev0 :Ev:=⟨[],[],0⟩
def evc (e:Ev):List Value:=[.string ⟨e.ty.toArray⟩,.string ⟨e.da.toArray⟩,.float .f64 e.we]
def evV (e:Ev):Value:= .agg #[.string ⟨e.ty.toArray⟩,.string ⟨e.da.toArray⟩,.float .f64 e.we]
def q6n (l:List Ev):List Value:=(l.map evc).flatten
theorem z3O (e:Ev):(evc e).length=3:=rfl
theorem z1P (l:List Ev):(q6n l).length=l.length*3:=by
 induction l with
 |nil=>rfl
 |cons a r ih=>rw[show q6n (a::r)=evc a++q6n r from rfl,List.length_append,ih,z3O,List.length_cons];omega
theorem q7G (a b:List Ev):q6n (a++b)=q6n a++q6n b:=by simp[q6n]
theorem z7k (l:List Ev): ∀u∈q6n l,u.oneCell'=true:=by
 intro u hu;obtain ⟨c,hc,hu⟩:=List.mem_flatten.1 hu;obtain ⟨a,_,rfl⟩:=List.mem_map.1 hc;simp[evc] at hu;rcases hu with rfl|rfl|rfl<;>rfl
def z8R (e:Ev):Prop:=q0t e.ty e.da=0∧e.we<18446744073709551616
def evB (e:Ev):List UInt8:=q2d e.ty++(q2d e.da++be 8 e.we)
def rdE (s:List UInt8):Option (Ev×List UInt8):=
 if q7Z s=true∧q7Z (rdR s)=true∧8≤(rdR (rdR s)).length∧q0t (rdT s) (rdT (rdR s))=0 then some (⟨rdT s,rdT (rdR s),q1F ((rdR (rdR s)).take 8)⟩,(rdR (rdR s)).drop 8) else none
def z1i :Nat→List UInt8→Option (List Ev×List UInt8)
 |0,s=>some ([],s)
 |n+1,s=>(z1i n s).bind fun r=>(rdE r.2).map fun x=>(r.1++[x.1],x.2)
structure Bt where
 st:List UInt8
 fi:Nat
 ev:List Ev
def q7Y :List Ev→Int
 |[]=>0
 |e::r=>if q0t e.ty e.da=0 then q7Y r else q0t e.ty e.da
def q0i (st:List UInt8) (fi:Int) (l:List Ev):Int:=
 if st=[]∨l=[] then 2 else if 32<st.length∨8<l.length then 3 else if fi<0∨1073741824-(l.length:Int)<fi then 2 else q7Y l
def btB (b:Bt):List UInt8:=q2d b.st++(be 8 b.fi++(be 1 b.ev.length++(b.ev.map evB).flatten))
def q4m (s:List UInt8):Bool:=q7Z s&&decide (9≤(rdR s).length)&&decide (q1F ((rdR s).take 8)≤1073741824)
def q4j (s:List UInt8):Option Bt:=
 if q4m s=true then match z1i ((rdR s).getD 8 0).toNat ((rdR s).drop 9) with
  |some (l,[])=>if q0i (rdT s) (q1F ((rdR s).take 8):Int) l=0 then some ⟨rdT s,q1F ((rdR s).take 8),l⟩ else none
  |_=>none
 else none
def z4L (b:Bt):Prop:=q0i b.st (b.fi:Int) b.ev=0∧ ∀e∈b.ev,e.we<18446744073709551616
theorem q2t {t d:List UInt8} (h:q0t t d=0):t≠[]∧t.length≤16∧d.length≤200:=by
 unfold q0t at h
 split at h
 ·cases h
 ·split at h
  ·cases h
  ·split at h
   ·cases h
   ·rename_i h1 h2 h3
    exact ⟨h1,by omega,by omega⟩
theorem q6M : ∀{l:List Ev},q7Y l=0→ ∀e∈l,q0t e.ty e.da=0
 |[],_,_,h=>by cases h
 | x ::r,h,e,he=>by
  unfold q7Y at h
  split at h
  ·rename_i h1
   rcases List.mem_cons.1 he with rfl|he
   ·exact h1
   ·exact q6M h e he
  ·rename_i h1;exact absurd h h1
theorem q1B {st:List UInt8} {fi:Int} {l:List Ev} (h:q0i st fi l=0):st≠[]∧l≠[]∧st.length≤32∧l.length≤8∧0≤fi∧fi≤1073741824-(l.length:Int)∧q7Y l=0:=by
 unfold q0i at h
 split at h
 ·cases h
 ·rename_i h1
  split at h
  ·cases h
  ·rename_i h2
   split at h
   ·cases h
   ·rename_i h3
    exact ⟨fun e=>h1 (.inl e),fun e=>h1 (.inr e),by omega,by omega,by omega,by omega,h⟩
theorem z0r (t r:List UInt8) (h:t.length≤65535):q7Z (q2d t++r)=true∧rdT (q2d t++r)=t∧rdR (q2d t++r)=r:=by
 rw[q2V h];have hb:(be 2 t.length).length=2:=q0I 2 _;have htk:(be 2 t.length++t++r).take 2=be 2 t.length:=by rw[List.append_assoc,List.take_left' hb]
 have hu:q1F ((be 2 t.length++t++r).take 2)=t.length:=by rw[htk,q4x,Nat.mod_eq_of_lt (by omega)]
 have hl:(be 2 t.length++t++r).length=2+t.length+r.length:=by simp[hb];omega
 have ho:q7Z (be 2 t.length++t++r)=true:=by unfold q7Z;rw[hu,hl];simp;omega
 refine ⟨ho,?_,?_⟩
 ·unfold rdT
  rw[if_pos ho,hu,List.take_left' (by simp[hb]),List.drop_left' hb]
 ·unfold rdR
  rw[if_pos ho,hu,List.drop_left' (by simp[hb])]
theorem y1l (e:Ev) (r:List UInt8) (h:z8R e):rdE (evB e++r)=some (e,r):=by
 obtain ⟨h1,h2⟩:=h;obtain ⟨_,h3,h4⟩:=q2t h1;have hb:(be 8 e.we).length=8:=q0I 8 _;have e1:evB e++r=q2d e.ty++(q2d e.da++(be 8 e.we++r)):=by unfold evB;simp
 obtain ⟨a1,a2,a3⟩:=z0r e.ty (q2d e.da++(be 8 e.we++r)) (by omega);obtain ⟨b1,b2,b3⟩:=z0r e.da (be 8 e.we++r) (by omega);unfold rdE;rw[e1,a2,a3,b2,b3,if_pos ⟨a1,b1,by rw[List.length_append,hb];omega,h1⟩,List.take_left' hb,List.drop_left' hb,q4x,Nat.mod_eq_of_lt h2]
theorem z8V : ∀(l done:List Ev) (r:List UInt8),(∀e∈l,z8R e)→ ∀s,z1i done.length s=some (done,(l.map evB).flatten++r)→z1i (done.length+l.length) s=some (done++l,r)
 |[],done,r,_,s,h=>by simpa using h
 | e ::l,done,r,hl,s,h=>by
  have h1:z1i (done.length+1) s=some (done++[e],(l.map evB).flatten++r):=by
   rw[z1i,h,Option.bind_some,List.map_cons,List.flatten_cons,List.append_assoc,y1l e _ (hl e (.head _))]
   rfl
  have:=z8V l (done++[e]) r (fun x hx=>hl x (.tail _ hx)) s (by rw[List.length_append];exact h1);rw[List.length_append,List.length_singleton,List.append_assoc] at this;rw[List.length_cons,show done.length+(l.length+1)=done.length+1+l.length by omega];exact this
theorem z4Z (b:Bt) (h:z4L b):q4j (btB b)=some b:=by
 obtain ⟨h1,h2⟩:=h;obtain ⟨p1,p2,p3,p4,p5,p6,p7⟩:=q1B h1;have hok: ∀e∈b.ev,z8R e:=fun e he=>⟨q6M p7 e he,h2 e he⟩
 have hb8:(be 8 b.fi).length=8:=q0I 8 _;have hb1:(be 1 b.ev.length).length=1:=q0I 1 _;obtain ⟨a1,a2,a3⟩:=z0r b.st (be 8 b.fi++(be 1 b.ev.length++(b.ev.map evB).flatten)) (by omega);have e8:(be 8 b.fi++(be 1 b.ev.length++(b.ev.map evB).flatten)).take 8=be 8 b.fi:=List.take_left' hb8;have hu:q1F (be 8 b.fi)=b.fi:=by rw[q4x,Nat.mod_eq_of_lt (by omega)]
 have hone:be 1 b.ev.length=[UInt8.ofNat b.ev.length]:=by simp[be]
 have hg:(be 8 b.fi++(be 1 b.ev.length++(b.ev.map evB).flatten)).getD 8 0=UInt8.ofNat b.ev.length:=by
  rw[List.getD_eq_getElem?_getD,List.getElem?_append_right (by omega),hb8,hone];rfl
 have hd:(be 8 b.fi++(be 1 b.ev.length++(b.ev.map evB).flatten)).drop 9=(b.ev.map evB).flatten:=by
  rw[←List.append_assoc,List.drop_left' (by simp[hb8,hb1])]
 have hn:(UInt8.ofNat b.ev.length).toNat=b.ev.length:=by rw[UInt8.toNat_ofNat'];omega
 have hr:=z8V b.ev [] [] hok (b.ev.map evB).flatten (by rw[List.append_nil];rfl);rw[List.nil_append,List.length_nil,Nat.zero_add] at hr;have hho:q4m (btB b)=true:=by
  unfold q4m btB;rw[a1,a3,e8,hu,List.length_append,List.length_append,hb8,hb1];simp;omega
 unfold q4j;rw[if_pos hho];unfold btB;rw[a2,a3,e8,hu,hg,hd,hn,hr];simp only;rw[if_pos h1]
def y0N (h:Int):Int:=
 let a:=bits .xor .u64 h (h/4294967296)
 let b:=IntKind.u64.wrap (a*11400714819323198485)
 bits .xor .u64 b (b/536870912)
def z1l (l:List UInt8) (h:Int):Int:=l.foldl (fun h b=>IntKind.u64.wrap (bits .xor .u64 h (b.toNat:Int)*1099511628211)) h
def q2P (seed:Int) (s:List UInt8):Int:=if seed=0 then 7 else y0N (z1l s (bits .xor .u64 14695981039346656037 seed))
end
end Go.Proofs.YthdekbmdkpcooaaGreatDoor
