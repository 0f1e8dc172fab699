/- Walks. -/
import Derived.Test.YteabhdclmodefaaGreatDoorG3CT
import Derived.Test.YteabhdclmodefaaGreatDoorG4CT
import Derived.Laws.ResultCell
import Derived.WalkSpells
set_option linter.unusedVariables false
set_option linter.unusedSimpArgs false
set_option maxRecDepth 100000
set_option maxHeartbeats 1600000
namespace Go.Proofs.YteabhdclmodefaaGreatDoor
section
open Go.RowKit
def q7S(s:List UInt8):Bool:=decide (2<=s.length)&&decide (q1N (s.take 2)+2<=s.length)
def rdT(s:List UInt8):List UInt8:=if q7S s then(s.take (2+q1N (s.take 2))).drop 2 else []
def rdR(s:List UInt8):List UInt8:=if q7S s then s.drop (2+q1N (s.take 2)) else []
theorem z1W(s:List UInt8)(w:World)(Y:s.length<=4611686018427387903):
  Calls Tryz.prog 46 #[.string ⟨s.toArray⟩] w fun e w'=>e= .returned (.tuple #[.string ⟨(rdT s).toArray⟩,.string ⟨(rdR s).toArray⟩,.bool (q7S s)])/\Ext w w':=by
 by_cases h2:(s.length:Int)<2
 ·have x:q7S s=false:=by unfold q7S;rw[ε (by omega)];rfl
  have N:Hd (rdT s=[]):=η (by unfold rdT;rw[x];rfl);have M:Hd (rdR s=[]):=η (by unfold rdR;rw[x];rfl);have l:=η x;clear x;go_enter Tryz.func46,Tryz.ntmps46;go_wp2_with fail;go_ret3;exact⟨by rw[N.o,M.o,l.o];rfl,Ext.refl _⟩
 have q:2<=s.length:=by omega
 have E:=q1t (s.take 2);rw[Θ,Nat.min_eq_left q] at E;have r:(s.take 2).take 8=s.take 2:=Δ (by simp;omega);have B:=η r;have l:Hd (q7S s=decide (q1N (s.take 2)+2<=s.length)):=η (by unfold q7S;rw[ζ q,Bool.true_and]);have C:Hd ((s.take 2).length<=9223372036854775807):=η (by simp;omega);have m:Hd (q7S s=true->rdT s=(s.take (2+q1N (s.take 2))).drop 2/\rdR s=s.drop (2+q1N (s.take 2))):=η (fun h=>by unfold rdT rdR;rw[h];exact⟨rfl,rfl⟩);have y:Hd (q7S s=false->rdT s=[]/\rdR s=[]):=η (fun h=>by unfold rdT rdR;rw[h];exact⟨rfl,rfl⟩);obtain⟨u,i⟩: ∃u,q1N (s.take 2)=u:=⟨_,rfl⟩
 rw[i] at E l m;have O:=η i;have X:(u:Int)<=65535:=by omega
 clear r i E h2;go_enter Tryz.func46,Tryz.ntmps46;go_wp2_with fail;refine(q9z (s.take 2) _ C.o).mono ?_;rw[B.o,O.o];rintro e w1 ⟨rfl,G⟩;have F:=η G;clear G;by_cases D:(s.length:Int)-2<(u:Int)
 ·have b:q7S s=false:=by rw[l.o];exact ε (by omega)
  have j:=η (y.o b);have d:=η b;clear b;go_wp2_with fail;go_ret3;exact⟨by rw[j.o.1,j.o.2,d.o];rfl,F.o⟩
 ·have b:q7S s=true:=by rw[l.o];exact ζ (by omega)
  have j:=η (m.o b);have d:=η b;clear b;have I:(u:Int)<=(s.length:Int)-2:=by omega
  have J:2+u<=s.length:=by omega
  clear D;have R:IntKind.i64.wrap (2+(u:Int))=2+(u:Int):=IntWalk.i64_in _ (by omega);have S:(2+(u:Int)).toNat=2+u:=by omega
  have U:0<=2+(u:Int):=by omega
  have V:2<=2+(u:Int):=by omega
  have W:2+(u:Int)<=(s.length:Int):=by omega
  go_wp2_with fail;refine q0E (by kernel_rfl) (by kernel_rfl) ?_
  repeat (go_big_quiet_step (fail))
  refine wpQuiet_nil ?_;intro Z v;have Q:=η (F.o.trans v);clear v;go_wp2_with fail;go_ret3;exact⟨by rw[j.o.1,j.o.2,d.o];rfl,Q.o⟩
theorem q7p(s:List UInt8):(rdR s).length<=s.length:=by unfold rdR;split<;>simp
theorem z3A(s:List UInt8):(rdT s).length<=s.length:=by unfold rdT;split<;>simp;omega
def q0Y(t d:List UInt8):Int:=if t=[] then 2 else if 16<t.length then 3 else if 200<d.length then 3 else 0
theorem q8I(t d:List UInt8)(k:FloatKind)(b:Nat)(w:World)(q:t.length<=4611686018427387903)(m:d.length<=4611686018427387903):
  Calls Tryz.prog 31 #[.agg #[.string ⟨t.toArray⟩,.string ⟨d.toArray⟩,.float k b]] w fun e w'=>e= .returned (.int .i64 (q0Y t d))/\Ext w w':=by
 have l:=η (q0B w (.cells #[.string ⟨t.toArray⟩,.string ⟨d.toArray⟩,.float k b] 66));by_cases i:t=[]
 ·subst i
  have j:Hd (q0Y [] d=2):=η (by unfold q0Y;rw[ξ rfl]);go_enter Tryz.func31,Tryz.ntmps31;go_wp2_with fail;go_ret;exact⟨rn j.o,l.o⟩
 have r:(t==[])=false:=beq_eq_false_iff_ne.2 i;by_cases h1:16<(t.length:Int)
 ·have j:Hd (q0Y t d=3):=η (by unfold q0Y;rw[κ i,ξ (by omega)])
  clear i;go_enter Tryz.func31,Tryz.ntmps31;go_wp2_with fail;go_ret;exact⟨rn j.o,l.o⟩
 by_cases h2:200<(d.length:Int)
 ·have j:Hd (q0Y t d=3):=η (by unfold q0Y;rw[κ i,κ (by omega),ξ (by omega)])
  clear i;go_enter Tryz.func31,Tryz.ntmps31;go_wp2_with fail;go_ret;exact⟨rn j.o,l.o⟩
 ·have j:Hd (q0Y t d=0):=η (by unfold q0Y;rw[κ i,κ (by omega),κ (by omega)])
  clear i;go_enter Tryz.func31,Tryz.ntmps31;go_wp2_with fail;go_ret;exact⟨rn j.o,l.o⟩
structure Ev where
 ty:List UInt8
 da:List UInt8
 we:Nat
def ev0 :Ev:=⟨[],[],0⟩
def evc(e:Ev):List Value:=[.string ⟨e.ty.toArray⟩,.string ⟨e.da.toArray⟩,.float .f64 e.we]
def evV(e:Ev):Value:= .agg #[.string ⟨e.ty.toArray⟩,.string ⟨e.da.toArray⟩,.float .f64 e.we]
def q7f(l:List Ev):List Value:=(l.map evc).flatten
theorem z6d(e:Ev):(evc e).length=3:=rfl
theorem q5z(l:List Ev):(q7f l).length=l.length*3:=by
 induction l with
 |nil=>rfl
 |cons a r ih=>rw[show q7f (a::r)=evc a++q7f r from rfl,θ,ih,z6d,χ];omega
theorem q8o(a b:List Ev):q7f (a++b)=q7f a++q7f b:=by simp[q7f]
theorem z5K(l:List Ev): ∀u∈q7f l,u.oneCell'=true:=by
 intro u b;obtain⟨c,hc,b⟩:=List.mem_flatten.1 b;obtain⟨a,_,rfl⟩:=List.mem_map.1 hc;simp[evc] at b;rcases b with rfl|rfl|rfl<;>rfl
def z6q(e:Ev):Prop:=q0Y e.ty e.da=0/\e.we<18446744073709551616
def evB(e:Ev):List UInt8:=q1f e.ty++(q1f e.da++be 8 e.we)
def rdE(s:List UInt8):Option (Ev×List UInt8):=
 if q7S s=true/\q7S (rdR s)=true/\8<=(rdR (rdR s)).length/\q0Y (rdT s) (rdT (rdR s))=0 then some (⟨rdT s,rdT (rdR s),q1N ((rdR (rdR s)).take 8)⟩,(rdR (rdR s)).drop 8) else none
def z4U :Nat->List UInt8->Option (List Ev×List UInt8)
 |0,s=>some ([],s)
 |n+1,s=>(z4U n s).bind fun r=>(rdE r.2).map fun x=>(r.1++[x.1],x.2)
structure Bt where
 st:List UInt8
 fi:Nat
 ev:List Ev
def q7J :List Ev->Int
 |[]=>0
 |e::r=>if q0Y e.ty e.da=0 then q7J r else q0Y e.ty e.da
def q0Q(st:List UInt8)(fi:Int)(l:List Ev):Int:=
 if st=[]\/l=[] then 2 else if 32<st.length\/8<l.length then 3 else if fi<0\/1073741824-(l.length:Int)<fi then 2 else q7J l
def btB(b:Bt):List UInt8:=q1f b.st++(be 8 b.fi++(be 1 b.ev.length++(b.ev.map evB).flatten))
def q5n(s:List UInt8):Bool:=q7S s&&decide (9<=(rdR s).length)&&decide (q1N ((rdR s).take 8)<=1073741824)
def q5g(s:List UInt8):Option Bt:=
 if q5n s=true then match z4U ((rdR s).getD 8 0).toNat ((rdR s).drop 9) with
  |some (l,[])=>if q0Q (rdT s) (q1N ((rdR s).take 8):Int) l=0 then some ⟨rdT s,q1N ((rdR s).take 8),l⟩ else none
  |_=>none
 else none
def z4K(b:Bt):Prop:=q0Q b.st (b.fi:Int) b.ev=0/\ ∀e∈b.ev,e.we<18446744073709551616
theorem q1i{t d:List UInt8}(h:q0Y t d=0):t≠[]/\t.length<=16/\d.length<=200:=by
 unfold q0Y at h
 split at h
 ·cases h
 ·split at h
  ·cases h
  ·split at h
   ·cases h
   ·rename_i h1 h2 h3
    exact⟨h1,by omega,by omega⟩
theorem q4b : ∀{l:List Ev},q7J l=0-> ∀e∈l,q0Y e.ty e.da=0
 |[],_,_,h=>by cases h
 | x ::r,h,e,he=>by
  unfold q7J at h
  split at h
  ·rename_i h1
   rcases List.mem_cons.1 he with rfl|he
   ·exact h1
   ·exact q4b h e he
  ·rename_i h1;exact absurd h h1
theorem q0g{st:List UInt8}{fi:Int}{l:List Ev}(h:q0Q st fi l=0):st≠[]/\l≠[]/\st.length<=32/\l.length<=8/\0<=fi/\fi<=1073741824-(l.length:Int)/\q7J l=0:=by
 unfold q0Q at h
 split at h
 ·cases h
 ·rename_i h1
  split at h
  ·cases h
  ·rename_i h2
   split at h
   ·cases h
   ·rename_i h3
    exact⟨fun e=>h1 (.inl e),fun e=>h1 (.inr e),by omega,by omega,by omega,by omega,h⟩
theorem z1d(t r:List UInt8)(h:t.length<=65535):q7S (q1f t++r)=true/\rdT (q1f t++r)=t/\rdR (q1f t++r)=r:=by
 rw[q1O h];have b:(be 2 t.length).length=2:=q0F 2 _;have i:(be 2 t.length++t++r).take 2=be 2 t.length:=by rw[List.append_assoc,List.take_left' b]
 have j:q1N ((be 2 t.length++t++r).take 2)=t.length:=by rw[i,q4K,Nat.mod_eq_of_lt (by omega)]
 have l:(be 2 t.length++t++r).length=2+t.length+r.length:=by simp[b];omega
 have d:q7S (be 2 t.length++t++r)=true:=by unfold q7S;rw[j,l];simp;omega
 refine⟨d,?_,?_⟩
 ·unfold rdT
  rw[ξ d,j,List.take_left' (by simp[b]),List.drop_left' b]
 ·unfold rdR
  rw[ξ d,j,List.drop_left' (by simp[b])]
theorem y4Z(e:Ev)(r:List UInt8)(h:z6q e):rdE (evB e++r)=some (e,r):=by
 obtain⟨h1,h2⟩:=h;obtain⟨_,h3,h4⟩:=q1i h1;have b:(be 8 e.we).length=8:=q0F 8 _;have j:evB e++r=q1f e.ty++(q1f e.da++(be 8 e.we++r)):=by unfold evB;simp
 obtain⟨a1,d,i⟩:=z1d e.ty (q1f e.da++(be 8 e.we++r)) (by omega);obtain⟨b1,b2,b3⟩:=z1d e.da (be 8 e.we++r) (by omega);unfold rdE;rw[j,d,i,b2,b3,ξ ⟨a1,b1,by rw[θ,b];omega,h1⟩,List.take_left' b,List.drop_left' b,q4K,Nat.mod_eq_of_lt h2]
theorem y1t : ∀(l done:List Ev) (r:List UInt8),(∀e∈l,z6q e)-> ∀s,z4U done.length s=some (done,(l.map evB).flatten++r)->z4U (done.length+l.length) s=some (done++l,r)
 |[],done,r,_,s,h=>by simpa using h
 | e ::l,done,r,hl,s,h=>by
  have h1:z4U (done.length+1) s=some (done++[e],(l.map evB).flatten++r):=by
   rw[z4U,h,Option.bind_some,List.map_cons,List.flatten_cons,List.append_assoc,y4Z e _ (hl e (.head _))]
   rfl
  have:=y1t l (done++[e]) r (fun x b=>hl x (.tail _ b)) s (by rw[θ];exact h1);rw[θ,List.length_singleton,List.append_assoc] at this;rw[χ,show done.length+(l.length+1)=done.length+1+l.length by omega];exact this
theorem z4A(b:Bt)(h:z4K b):q5g (btB b)=some b:=by
 obtain⟨h1,h2⟩:=h;obtain⟨C,D,E,F,G,I,B⟩:=q0g h1;have m: ∀e∈b.ev,z6q e:=fun e he=>⟨q4b B e he,h2 e he⟩
 have d:(be 8 b.fi).length=8:=q0F 8 _;have i:(be 1 b.ev.length).length=1:=q0F 1 _;obtain⟨a1,u,o⟩:=z1d b.st (be 8 b.fi++(be 1 b.ev.length++(b.ev.map evB).flatten)) (by omega);have q:(be 8 b.fi++(be 1 b.ev.length++(b.ev.map evB).flatten)).take 8=be 8 b.fi:=List.take_left' d;have s:q1N (be 8 b.fi)=b.fi:=by rw[q4K,Nat.mod_eq_of_lt (by omega)]
 have j:be 1 b.ev.length=[UInt8.ofNat b.ev.length]:=by simp[be]
 have x:(be 8 b.fi++(be 1 b.ev.length++(b.ev.map evB).flatten)).getD 8 0=UInt8.ofNat b.ev.length:=by
  rw[δ,List.getElem?_append_right (by omega),d,j];rfl
 have v:(be 8 b.fi++(be 1 b.ev.length++(b.ev.map evB).flatten)).drop 9=(b.ev.map evB).flatten:=by
  rw[<-List.append_assoc,List.drop_left' (by simp[d,i])]
 have y:(UInt8.ofNat b.ev.length).toNat=b.ev.length:=by rw[UInt8.toNat_ofNat'];omega
 have r:=y1t b.ev [] [] m (b.ev.map evB).flatten (by rw[List.append_nil];rfl);rw[List.nil_append,List.length_nil,Nat.zero_add] at r;have l:q5n (btB b)=true:=by
  unfold q5n btB;rw[a1,o,q,s,θ,θ,d,i];simp;omega
 unfold q5g;rw[ξ l];unfold btB;rw[u,o,q,s,x,v,y,r];simp only;rw[ξ h1]
def y4H(h:Int):Int:=
 let a:=bits .xor .u64 h (h/4294967296)
 let b:=IntKind.u64.wrap (a*11400714819323198485)
 bits .xor .u64 b (b/536870912)
def z4C(l:List UInt8)(h:Int):Int:=l.foldl (fun h b=>IntKind.u64.wrap (bits .xor .u64 h (b.toNat:Int)*1099511628211)) h
def q2z(seed:Int)(s:List UInt8):Int:=if seed=0 then 7 else y4H (z4C s (bits .xor .u64 14695981039346656037 seed))
end
end Go.Proofs.YteabhdclmodefaaGreatDoor
