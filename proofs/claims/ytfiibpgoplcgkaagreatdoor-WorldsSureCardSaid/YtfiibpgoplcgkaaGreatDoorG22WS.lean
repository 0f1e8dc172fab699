/- Walks. -/
import Derived.Test.YtfiibpgoplcgkaaGreatDoorG3WS
import Derived.Test.YtfiibpgoplcgkaaGreatDoorG6WS
import Derived.Laws.ResultCell
import Derived.WalkSpells
set_option linter.unusedVariables false
set_option linter.unusedSimpArgs false
set_option maxRecDepth 100000
set_option maxHeartbeats 1600000
namespace Go.Proofs.YtfiibpgoplcgkaaGreatDoor
section
open Go.RowKit
def q9A(s:List UInt8):Bool:=decide (2<=s.length)&&decide (q1W (s.take 2)+2<=s.length)
def rdT(s:List UInt8):List UInt8:=if q9A s then(s.take (2+q1W (s.take 2))).drop 2 else []
def rdR(s:List UInt8):List UInt8:=if q9A s then s.drop (2+q1W (s.take 2)) else []
theorem z3S(s:List UInt8)(w:World)(Y:s.length<=4611686018427387903):
  Calls Tryz.prog 132 #[.string ⟨s.toArray⟩] w fun e w'=>e= .returned (.tuple #[.string ⟨(rdT s).toArray⟩,.string ⟨(rdR s).toArray⟩,.bool (q9A s)])/\Ext w w':=by
 by_cases h2:(s.length:Int)<2
 ·have x:q9A s=false:=by unfold q9A;rw[ε (by omega)];rfl
  have N:Hd (rdT s=[]):=η (by unfold rdT;rw[x];rfl);have M:Hd (rdR s=[]):=η (by unfold rdR;rw[x];rfl);have l:=η x;clear x;go_enter Tryz.func132,Tryz.ntmps132;go_wp2_with fail;go_ret3;exact⟨by rw[N.o,M.o,l.o];rfl,Ext.refl _⟩
 have q:2<=s.length:=by omega
 have E:=q2R (s.take 2);rw[Θ,Nat.min_eq_left q] at E;have r:(s.take 2).take 8=s.take 2:=Δ (by simp;omega);have B:=η r;have l:Hd (q9A s=decide (q1W (s.take 2)+2<=s.length)):=η (by unfold q9A;rw[ζ q,Bool.true_and]);have C:Hd ((s.take 2).length<=9223372036854775807):=η (by simp;omega);have m:Hd (q9A s=true->rdT s=(s.take (2+q1W (s.take 2))).drop 2/\rdR s=s.drop (2+q1W (s.take 2))):=η (fun h=>by unfold rdT rdR;rw[h];exact⟨rfl,rfl⟩);have y:Hd (q9A s=false->rdT s=[]/\rdR s=[]):=η (fun h=>by unfold rdT rdR;rw[h];exact⟨rfl,rfl⟩);obtain⟨u,i⟩: ∃u,q1W (s.take 2)=u:=⟨_,rfl⟩
 rw[i] at E l m;have O:=η i;have X:(u:Int)<=65535:=by omega
 clear r i E h2;go_enter Tryz.func132,Tryz.ntmps132;go_wp2_with fail;refine(z0S (s.take 2) _ C.o).mono ?_;rw[B.o,O.o];rintro e w1 ⟨rfl,G⟩;have F:=η G;clear G;by_cases D:(s.length:Int)-2<(u:Int)
 ·have b:q9A s=false:=by rw[l.o];exact ε (by omega)
  have j:=η (y.o b);have d:=η b;clear b;go_wp2_with fail;go_ret3;exact⟨by rw[j.o.1,j.o.2,d.o];rfl,F.o⟩
 ·have b:q9A s=true:=by rw[l.o];exact ζ (by omega)
  have j:=η (m.o b);have d:=η b;clear b;have I:(u:Int)<=(s.length:Int)-2:=by omega
  have J:2+u<=s.length:=by omega
  clear D;have R:IntKind.i64.wrap (2+(u:Int))=2+(u:Int):=IntWalk.i64_in _ (by omega);have S:(2+(u:Int)).toNat=2+u:=by omega
  have U:0<=2+(u:Int):=by omega
  have V:2<=2+(u:Int):=by omega
  have W:2+(u:Int)<=(s.length:Int):=by omega
  go_wp2_with fail;refine q0E (by kernel_rfl) (by kernel_rfl) ?_
  repeat (go_big_quiet_step (fail))
  refine wpQuiet_nil ?_;intro Z v;have Q:=η (F.o.trans v);clear v;go_wp2_with fail;go_ret3;exact⟨by rw[j.o.1,j.o.2,d.o];rfl,Q.o⟩
theorem q8f(s:List UInt8):(rdR s).length<=s.length:=by unfold rdR;split<;>simp
theorem z4m(s:List UInt8):(rdT s).length<=s.length:=by unfold rdT;split<;>simp;omega
def q1I(t d:List UInt8):Int:=if t=[] then 2 else if 16<t.length then 3 else if 200<d.length then 3 else 0
theorem z0I(t d:List UInt8)(k:FloatKind)(b:Nat)(w:World)(q:t.length<=4611686018427387903)(m:d.length<=4611686018427387903):
  Calls Tryz.prog 124 #[.agg #[.string ⟨t.toArray⟩,.string ⟨d.toArray⟩,.float k b]] w fun e w'=>e= .returned (.int .i64 (q1I t d))/\Ext w w':=by
 have l:=η (q0C w (.cells #[.string ⟨t.toArray⟩,.string ⟨d.toArray⟩,.float k b] 67));by_cases i:t=[]
 ·subst i
  have j:Hd (q1I [] d=2):=η (by unfold q1I;rw[ξ rfl]);go_enter Tryz.func124,Tryz.ntmps124;go_wp2_with fail;go_ret;exact⟨rn j.o,l.o⟩
 have r:(t==[])=false:=beq_eq_false_iff_ne.2 i;by_cases h1:16<(t.length:Int)
 ·have j:Hd (q1I t d=3):=η (by unfold q1I;rw[κ i,ξ (by omega)])
  clear i;go_enter Tryz.func124,Tryz.ntmps124;go_wp2_with fail;go_ret;exact⟨rn j.o,l.o⟩
 by_cases h2:200<(d.length:Int)
 ·have j:Hd (q1I t d=3):=η (by unfold q1I;rw[κ i,κ (by omega),ξ (by omega)])
  clear i;go_enter Tryz.func124,Tryz.ntmps124;go_wp2_with fail;go_ret;exact⟨rn j.o,l.o⟩
 ·have j:Hd (q1I t d=0):=η (by unfold q1I;rw[κ i,κ (by omega),κ (by omega)])
  clear i;go_enter Tryz.func124,Tryz.ntmps124;go_wp2_with fail;go_ret;exact⟨rn j.o,l.o⟩
structure Ev where
 ty:List UInt8
 da:List UInt8
 we:Nat
def ev0 :Ev:=⟨[],[],0⟩
def evc(e:Ev):List Value:=[.string ⟨e.ty.toArray⟩,.string ⟨e.da.toArray⟩,.float .f64 e.we]
def evV(e:Ev):Value:= .agg #[.string ⟨e.ty.toArray⟩,.string ⟨e.da.toArray⟩,.float .f64 e.we]
def z0L(l:List Ev):List Value:=(l.map evc).flatten
theorem z3D(a b:List Ev):z0L (a++b)=z0L a++z0L b:=by simp[z0L]
theorem z9o(l:List Ev): ∀u∈z0L l,u.oneCell'=true:=by
 intro u b;obtain⟨c,hc,b⟩:=List.mem_flatten.1 b;obtain⟨a,_,rfl⟩:=List.mem_map.1 hc;simp[evc] at b;rcases b with rfl|rfl|rfl<;>rfl
def y0z(e:Ev):Prop:=q1I e.ty e.da=0/\e.we<18446744073709551616
def evB(e:Ev):List UInt8:=q3L e.ty++(q3L e.da++be 8 e.we)
def rdE(s:List UInt8):Option (Ev×List UInt8):=
 if q9A s=true/\q9A (rdR s)=true/\8<=(rdR (rdR s)).length/\q1I (rdT s) (rdT (rdR s))=0 then some (⟨rdT s,rdT (rdR s),q1W ((rdR (rdR s)).take 8)⟩,(rdR (rdR s)).drop 8) else none
def z3Z :Nat->List UInt8->Option (List Ev×List UInt8)
 |0,s=>some ([],s)
 |n+1,s=>(z3Z n s).bind fun r=>(rdE r.2).map fun x=>(r.1++[x.1],x.2)
structure Bt where
 st:List UInt8
 fi:Nat
 ev:List Ev
def q8y :List Ev->Int
 |[]=>0
 |e::r=>if q1I e.ty e.da=0 then q8y r else q1I e.ty e.da
def q0t(st:List UInt8)(fi:Int)(l:List Ev):Int:=
 if st=[]\/l=[] then 2 else if 32<st.length\/8<l.length then 3 else if fi<0\/1073741824-(l.length:Int)<fi then 2 else q8y l
def btB(b:Bt):List UInt8:=q3L b.st++(be 8 b.fi++(be 1 b.ev.length++(b.ev.map evB).flatten))
def q5e(s:List UInt8):Bool:=q9A s&&decide (9<=(rdR s).length)&&decide (q1W ((rdR s).take 8)<=1073741824)
def q5V(s:List UInt8):Option Bt:=
 if q5e s=true then match z3Z ((rdR s).getD 8 0).toNat ((rdR s).drop 9) with
  |some (l,[])=>if q0t (rdT s) (q1W ((rdR s).take 8):Int) l=0 then some ⟨rdT s,q1W ((rdR s).take 8),l⟩ else none
  |_=>none
 else none
def z5w(b:Bt):Prop:=q0t b.st (b.fi:Int) b.ev=0/\ ∀e∈b.ev,e.we<18446744073709551616
theorem q3W{t d:List UInt8}(h:q1I t d=0):t≠[]/\t.length<=16/\d.length<=200:=by
 unfold q1I at h
 split at h
 ·cases h
 ·split at h
  ·cases h
  ·split at h
   ·cases h
   ·rename_i h1 h2 h3
    exact⟨h1,by omega,by omega⟩
theorem q7e : ∀{l:List Ev},q8y l=0-> ∀e∈l,q1I e.ty e.da=0
 |[],_,_,h=>by cases h
 | x ::r,h,e,he=>by
  unfold q8y at h
  split at h
  ·rename_i h1
   rcases List.mem_cons.1 he with rfl|he
   ·exact h1
   ·exact q7e h e he
  ·rename_i h1;exact absurd h h1
theorem q1H{st:List UInt8}{fi:Int}{l:List Ev}(h:q0t st fi l=0):st≠[]/\l≠[]/\st.length<=32/\l.length<=8/\0<=fi/\fi<=1073741824-(l.length:Int)/\q8y l=0:=by
 unfold q0t at h
 split at h
 ·cases h
 ·rename_i h1
  split at h
  ·cases h
  ·rename_i h2
   split at h
   ·cases h
   ·rename_i h3
    exact⟨fun e=>h1 (.inl e),fun e=>h1 (.inr e),by omega,by omega,by omega,by omega,h⟩
theorem z3b(t r:List UInt8)(h:t.length<=65535):q9A (q3L t++r)=true/\rdT (q3L t++r)=t/\rdR (q3L t++r)=r:=by
 rw[q3E h];have b:(be 2 t.length).length=2:=q0G 2 _;have i:(be 2 t.length++t++r).take 2=be 2 t.length:=by rw[List.append_assoc,List.take_left' b]
 have j:q1W ((be 2 t.length++t++r).take 2)=t.length:=by rw[i,q5J,Nat.mod_eq_of_lt (by omega)]
 have l:(be 2 t.length++t++r).length=2+t.length+r.length:=by simp[b];omega
 have d:q9A (be 2 t.length++t++r)=true:=by unfold q9A;rw[j,l];simp;omega
 refine⟨d,?_,?_⟩
 ·unfold rdT
  rw[ξ d,j,List.take_left' (by simp[b]),List.drop_left' b]
 ·unfold rdR
  rw[ξ d,j,List.drop_left' (by simp[b])]
theorem y4e(e:Ev)(r:List UInt8)(h:y0z e):rdE (evB e++r)=some (e,r):=by
 obtain⟨h1,h2⟩:=h;obtain⟨_,h3,h4⟩:=q3W h1;have b:(be 8 e.we).length=8:=q0G 8 _;have l:evB e++r=q3L e.ty++(q3L e.da++(be 8 e.we++r)):=by unfold evB;simp
 obtain⟨d,i,j⟩:=z3b e.ty (q3L e.da++(be 8 e.we++r)) (by omega);obtain⟨b1,b2,b3⟩:=z3b e.da (be 8 e.we++r) (by omega);unfold rdE;rw[l,i,j,b2,b3,ξ ⟨d,b1,by rw[θ,b];omega,h1⟩,List.take_left' b,List.drop_left' b,q5J,Nat.mod_eq_of_lt h2]
theorem y1A : ∀(l done:List Ev) (r:List UInt8),(∀e∈l,y0z e)-> ∀s,z3Z done.length s=some (done,(l.map evB).flatten++r)->z3Z (done.length+l.length) s=some (done++l,r)
 |[],done,r,_,s,h=>by simpa using h
 | e ::l,done,r,hl,s,h=>by
  have h1:z3Z (done.length+1) s=some (done++[e],(l.map evB).flatten++r):=by
   rw[z3Z,h,Option.bind_some,List.map_cons,List.flatten_cons,List.append_assoc,y4e e _ (hl e (.head _))]
   rfl
  have:=y1A l (done++[e]) r (fun x b=>hl x (.tail _ b)) s (by rw[θ];exact h1);rw[θ,List.length_singleton,List.append_assoc] at this;rw[χ,show done.length+(l.length+1)=done.length+1+l.length by omega];exact this
theorem z3H(b:Bt)(h:z5w b):q5V (btB b)=some b:=by
 obtain⟨h1,h2⟩:=h;obtain⟨D,E,F,G,I,J,C⟩:=q1H h1;have m: ∀e∈b.ev,y0z e:=fun e he=>⟨q7e C e he,h2 e he⟩
 have d:(be 8 b.fi).length=8:=q0G 8 _;have i:(be 1 b.ev.length).length=1:=q0G 1 _;obtain⟨u,v,o⟩:=z3b b.st (be 8 b.fi++(be 1 b.ev.length++(b.ev.map evB).flatten)) (by omega);have q:(be 8 b.fi++(be 1 b.ev.length++(b.ev.map evB).flatten)).take 8=be 8 b.fi:=List.take_left' d;have s:q1W (be 8 b.fi)=b.fi:=by rw[q5J,Nat.mod_eq_of_lt (by omega)]
 have j:be 1 b.ev.length=[UInt8.ofNat b.ev.length]:=by simp[be]
 have y:(be 8 b.fi++(be 1 b.ev.length++(b.ev.map evB).flatten)).getD 8 0=UInt8.ofNat b.ev.length:=by
  rw[δ,List.getElem?_append_right (by omega),d,j];rfl
 have x:(be 8 b.fi++(be 1 b.ev.length++(b.ev.map evB).flatten)).drop 9=(b.ev.map evB).flatten:=by
  rw[<-List.append_assoc,List.drop_left' (by simp[d,i])]
 have B:(UInt8.ofNat b.ev.length).toNat=b.ev.length:=by rw[UInt8.toNat_ofNat'];omega
 have r:=y1A b.ev [] [] m (b.ev.map evB).flatten (by rw[List.append_nil];rfl);rw[List.nil_append,List.length_nil,Nat.zero_add] at r;have l:q5e (btB b)=true:=by
  unfold q5e btB;rw[u,o,q,s,θ,θ,d,i];simp;omega
 unfold q5V;rw[ξ l];unfold btB;rw[v,o,q,s,y,x,B,r];simp only;rw[ξ h1]
def y3Y(h:Int):Int:=
 let a:=bits .xor .u64 h (h/4294967296)
 let b:=IntKind.u64.wrap (a*11400714819323198485)
 bits .xor .u64 b (b/536870912)
def z3J(l:List UInt8)(h:Int):Int:=l.foldl (fun h b=>IntKind.u64.wrap (bits .xor .u64 h (b.toNat:Int)*1099511628211)) h
def q2m(seed:Int)(s:List UInt8):Int:=if seed=0 then 7 else y3Y (z3J s (bits .xor .u64 14695981039346656037 seed))
end
end Go.Proofs.YtfiibpgoplcgkaaGreatDoor
