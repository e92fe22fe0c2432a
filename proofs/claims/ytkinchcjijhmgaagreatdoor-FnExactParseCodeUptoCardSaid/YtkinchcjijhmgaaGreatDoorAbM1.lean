/- Part of a proof: the functions that the law reaches, walked by the abstract logic of the texts Ab. -/
import GoSem.Dispatch
import Derived.Tactics
import Derived.Below
import Derived.Laws.AppendOwn
import Derived.Laws.OwnMore
import Derived.Laws.MakeOwn
import Derived.Laws.Tables
import Derived.Laws.Cells
import Derived.Laws.IdiomStrings
import Derived.MapKept
import Derived.LaidEql
open Nat(le_refl le_trans lt_of_lt_of_le add_zero min_eq_left add_mul mul_le_mul_right add_assoc zero_add le_succ)
open Option(bind_eq_bind bind_eq_some_iff pure_def map_eq_some_iff map_some)
open List(append_nil ext_getElem? getElem?_take getElem?_set_ne getElem?_append_left getElem?_set_self getElem?_append_right length_take getElem?_eq_none getElem?_drop mapM_cons mem_of_getElem? append_assoc getElem?_toArray size_toArray length_append length_drop)
set_option linter.unusedVariables false
set_option linter.unusedSimpArgs false
namespace Go.Ab
def k9:List (Nat×Nat×Value):=[(5,0,.int .u64 1),(5,1,.int .u64 10),(5,2,.int .u64 100),(5,3,.int .u64 1000),(5,4,.int .u64 10000),(5,5,.int .u64 100000),(5,6,.int .u64 1000000),(5,7,.int .u64 10000000),(5,8,.int .u64 100000000),(5,9,.int .u64 1000000000),(5,10,.int .u64 10000000000),(5,11,.int .u64 100000000000),(5,12,.int .u64 1000000000000),(5,13,.int .u64 10000000000000),(5,14,.int .u64 100000000000000),(5,15,.int .u64 1000000000000000),(5,16,.int .u64 10000000000000000),(5,17,.int .u64 100000000000000000),(5,18,.int .u64 1000000000000000000),(5,19,.int .u64 10000000000000000000)]
def kK:List (Nat×Nat):=[(5,20),(3,1),(4,1)]
def adq(b:Nat)(v:Value):Bool:=
 match b,v with
 |3,.iface _ _=>true
 |3,_=>false
 |4,.iface _ _=>true
 |4,_=>false
 |_,_=>true
def ui:Nat:=5
def tV:Nat:=3
def tU:Nat:=4
end Go.Ab
namespace Go.Ab
abbrev da:=Nat->Nat->Option Value
inductive AV where
 |top
 |v (x:Value)
 |aQ
 |sl (xs:List AV)
 |bW (x:AV) (f:Nat)
 |row (n len:Nat)
 |ptr (n len i f:Nat)
 |fn (f:FuncId) (aX:List AV)
 |agg (cs:List AV)
 |aK (vs:List AV)
 |own (n:Nat)
 |oF
instance:Inhabited AV:=⟨.top⟩
def AV.cells:AV->List AV
 | .agg cs=>cs
 |x=>[x]
def AV.isAgg:AV->Bool
 | .agg _=>true
 |_=>false
def AV.cI:AV->Bool
 | .agg _| .aK _| .top=>false
 |_=>true
inductive fT where
 |mp (es:List (AV×AV))
 |it (s:ByteArray) (pos:Nat)
def fT.kY:fT->Bool
 | .mp _=>true
 | .it _ _=>false
def fT.val(g:fT)(b:Nat):Value:=if g.kY=true then .map (some b)else .pointer (some ⟨b,0,none⟩)
theorem fT.val_one(g:fT)(b:Nat):(g.val b).oneCell'=true:=by cases g<;>rfl
inductive ae where
 |dead
 |nil (e s:Nat)
 |live (e s:Nat) (xs:List AV)
 |own (a:AV)
 |cN (g:fT)
instance:Inhabited ae:=⟨.dead⟩
structure Loc where
 bc:Nat
 cap:Nat
 val:Value
 mem:da
abbrev Loc.at(b c:Nat):Loc:=⟨b,c,.slice none 0 0,λ _ _=>none⟩
@[simp] theorem Loc.ayY (b c:Nat):(Loc.at b c).bc=b:=rfl
@[simp] theorem Loc.ayX (b c:Nat):(Loc.at b c).cap=c:=rfl
inductive R(I:da)(L:Nat->Loc)(O:List ae):AV->Value->Prop
 |top (x:Value):R I L O .top x
 |v (x:Value):x.oneCell'=true->R I L O (.v x) x
 |aQ:R I L O .aQ (.slice none 0 0)
 |me (a:Option Addr) (cap:Nat):R I L O (.sl []) (.slice a 0 cap)
 |sl (xs:List AV) (bc off cap s:Nat) (bB:Nat->Nat->Value):xs.length<=cap->xs≠[]->
  (∀(i:Nat) (x:AV),xs[i]? =some x->x.cells.length=s)->
  (∀(i:Nat) (x:AV) (j:Nat) (c:AV),xs[i]? =some x->x.cells[j]? =some c->I bc (off+i*s+j)=some (bB i j)/\(bB i j).oneCell'=true)->
  (∀(i:Nat) (x:AV) (j:Nat) (c:AV),xs[i]? =some x->x.cells[j]? =some c->R I L O c (bB i j))->
  R I L O (.sl xs) (.slice (some ⟨bc,off,none⟩) xs.length cap)
 |bW (x:AV) (f bc base:Nat) (bB:Nat->Value):
  (∀(j:Nat) (c:AV),x.cells[j]? =some c->I bc (base+j)=some (bB j)/\(bB j).oneCell'=true)->
  (∀(j:Nat) (c:AV),x.cells[j]? =some c->R I L O c (bB j))->
  R I L O (.bW x f) (.pointer (some ⟨bc,base+f,none⟩))
 |bV (n len e s:Nat) (xs:List AV):O[n]? =some (.live e s xs)->xs.length=len->
  R I L O (.row n len) (.slice (some ⟨(L n).bc,0,none⟩) len (L n).cap)
 |eb (n e s:Nat):O[n]? =some (.nil e s)->R I L O (.row n 0) (.slice none 0 0)
 |dN (n len:Nat) (x:Value):n<O.length->(∀e s,O[n]? ≠some (.nil e s))->(∀e s xs,O[n]? =some (.live e s xs)->len<xs.length)->x.oneCell'=true->
  R I L O (.row n len) x
 |di (n len i f e s:Nat) (xs:List AV):O[n]? =some (.live e s xs)->xs.length=len->
  R I L O (.ptr n len i f) (.pointer (some ⟨(L n).bc,i*s+f,none⟩))
 |fa (n len i f:Nat) (x:Value):n<O.length->(∀e s,O[n]? ≠some (.nil e s))->(∀e s xs,O[n]? =some (.live e s xs)->len<xs.length)->x.oneCell'=true->
  R I L O (.ptr n len i f) x
 |fn (f:FuncId) (aX:List AV) (vs:Array Value):aX.length=vs.size->
  (∀(i:Nat) (c:AV) (x:Value),aX[i]? =some c->vs[i]? =some x->R I L O c x)->R I L O (.fn f aX) (.func (.func f) #[] vs)
 |agg (cs:List AV) (vs:Array Value):cs.length=vs.size->
  (∀(i:Nat) (c:AV) (x:Value),cs[i]? =some c->vs[i]? =some x->R I L O c x)->R I L O (.agg cs) (.agg vs)
 |aK (cs:List AV) (vs:Array Value):cs.length=vs.size->
  (∀(i:Nat) (c:AV) (x:Value),cs[i]? =some c->vs[i]? =some x->R I L O c x)->R I L O (.aK cs) (.tuple vs)
 |eL (n:Nat) (a:AV):O[n]? =some (.own a)->(L n).val.oneCell'=true->R I L O (.own n) (L n).val
 |fD (n:Nat) (g:fT):O[n]? =some (.cN g)->R I L O (.own n) (g.val (L n).bc)
 |dO (n:Nat) (x:Value):n<O.length->(∀a,O[n]? ≠some (.own a))->(∀g,O[n]? ≠some (.cN g))->x.oneCell'=true->R I L O (.own n) x
 |oF (t:TypeId) (x:Value):R I L O .oF (.iface t x)
structure Ext(I:da)(L:Nat->Loc)(O:List ae)(I':da)(L':Nat->Loc)(O':List ae):Prop where
 iy:∀b o x,I b o=some x->I' b o=some x
 len:O.length<=O'.length
 obj:∀n,n<O.length->∀e s xs,O'[n]? =some (.live e s xs)->(∃ys,O[n]? =some (.live e s ys)/\ys.length<=xs.length/\(ys.length=xs.length->L' n=L n))∨(O[n]? =some (.nil e s)/\xs≠[])
 nil:∀n,n<O.length->∀e s,O'[n]? =some (.nil e s)->O[n]? =some (.nil e s)
 own:∀n,n<O.length->∀a,O'[n]? =some (.own a)->(∃b,O[n]? =some (.own b))/\(L' n).val=(L n).val
 cN:∀n,n<O.length->∀g,O'[n]? =some (.cN g)->(∃h,O[n]? =some (.cN h)/\h.kY=g.kY)/\(L' n).bc=(L n).bc
theorem Ext.refl(I:da)(L:Nat->Loc)(O:List ae):Ext I L O I L O:=
 ⟨λ _ _ _ h=>h,le_refl _,λ _ _ _ _ xs h=> .inl ⟨xs,h,le_refl _,λ _=>rfl⟩,λ _ _ _ _ h=>h,λ _ _ a h=>⟨⟨a,h⟩,rfl⟩,λ _ _ g h=>⟨⟨g,h,rfl⟩,rfl⟩⟩
theorem Ext.trans{I I' I'':da}{L L' L'':Nat->Loc}{O O' pC:List ae}(h:Ext I L O I' L' O')(k:Ext I' L' O' I'' L'' pC):Ext I L O I'' L'' pC:=by
 refine⟨λ b o x hx=>k.iy _ _ _ (h.iy _ _ _ hx),le_trans h.len k.len,λ n hn e s xs hx=> ?_,λ n hn e s hx=>h.nil n hn e s (k.nil n (lt_of_lt_of_le hn h.len) e s hx),λ n hn a hx=> ?_,λ n hn g hx=> ?_⟩;rotate_left
 ·obtain⟨⟨b,hb⟩,h1⟩:=k.own n (lt_of_lt_of_le hn h.len) a hx;obtain⟨hc,h2⟩:=h.own n hn b hb;exact⟨hc,h1.trans h2⟩
 ·obtain⟨⟨b,hb,hk⟩,h1⟩:=k.cN n (lt_of_lt_of_le hn h.len) g hx;obtain⟨⟨c,hc,hm⟩,h2⟩:=h.cN n hn b hb;exact⟨⟨c,hc,hm.trans hk⟩,h1.trans h2⟩
 rcases k.obj n (lt_of_lt_of_le hn h.len) e s xs hx with⟨ys,hy,hle,hL⟩|⟨hy,cr⟩
 ·rcases h.obj n hn e s ys hy with⟨zs,hz,arX,hL'⟩|⟨hz,cr⟩
  ·exact .inl ⟨zs,hz,le_trans arX hle,λ he=>(hL (by omega)).trans (hL' (by omega))⟩
  ·refine .inr ⟨hz,λ h0=>cr ?_⟩;subst h0;exact List.eq_nil_of_length_eq_zero (by simpa using hle)
 ·exact .inr ⟨h.nil n hn e s hy,cr⟩
theorem Ext.apK{I I':da}{L L':Nat->Loc}{O O':List ae}(h:Ext I L O I' L' O'){n len:Nat}(hn:n<O.length)(vW:∀e s,O[n]? ≠some (.nil e s))(hs:∀e s xs,O[n]? =some (.live e s xs)->len<xs.length):
  n<O'.length/\(∀e s,O'[n]? ≠some (.nil e s))/\∀e s xs,O'[n]? =some (.live e s xs)->len<xs.length:=by
 refine⟨lt_of_lt_of_le hn h.len,λ e s he=>vW e s (h.nil n hn e s he),λ e s xs hx=> ?_⟩;rcases h.obj n hn e s xs hx with⟨ys,hy,hle,_⟩|⟨hy,_⟩
 ·exact lt_of_lt_of_le (hs e s ys hy) hle
 ·exact(vW e s hy).elim
theorem Ext.live{I I':da}{L L':Nat->Loc}{O O':List ae}(h:Ext I L O I' L' O'){n len e s:Nat}{xs:List AV}(hn:O[n]? =some (.live e s xs))(hl:xs.length=len):
  (∃ys,O'[n]? =some (.live e s ys)/\ys.length=len/\L' n=L n)∨(n<O'.length/\(∀e s,O'[n]? ≠some (.nil e s))/\∀e s xs,O'[n]? =some (.live e s xs)->len<xs.length):=by
 have au:n<O.length:=(List.getElem?_eq_some_iff.1 hn).1;have vG:∀e s,O'[n]? ≠some (.nil e s):=λ e s he=>by have:=h.nil n au e s he;rw[hn]at this;cases this
 by_cases hd:∃e' s' hZ,O'[n]? =some (.live e' s' hZ)
 ·obtain⟨e',s',hZ,hx⟩:=hd;rcases h.obj n au e' s' hZ hx with⟨ys,hy,hle,hL⟩|⟨hy,_⟩
  ·rw[hn]at hy;cases hy;by_cases he:xs.length=hZ.length
   ·exact .inl ⟨hZ,hx,by omega,hL he⟩
   ·exact .inr ⟨lt_of_lt_of_le au h.len,vG,λ e'' s'' ats yH=>by rw[hx]at yH;cases yH;omega⟩
  ·rw[hn]at hy;cases hy
 ·exact .inr ⟨lt_of_lt_of_le au h.len,vG,λ e'' s'' ats yH=>(hd ⟨_,_,_,yH⟩).elim⟩
theorem R.mono{I I':da}{L L':Nat->Loc}{O O':List ae}(h:Ext I L O I' L' O'){a:AV}{x:Value}(hr:R I L O a x):R I' L' O' a x:=by
 induction hr with
 |top x=>exact .top x
 |v x hx=>exact .v x hx
 |aQ=>exact .aQ
 |oF t x=>exact .oF t x
 |me a cap=>exact .me a cap
 |sl xs bc off cap s bB h1 h2 h3 h4 _ ih=>exact .sl xs bc off cap s bB h1 h2 h3 (λ i x j c hi hj=>⟨h.iy _ _ _ (h4 i x j c hi hj).1,(h4 i x j c hi hj).2⟩) ih
 |bW x f bc base bB h1 _ ih=>exact .bW x f bc base bB (λ j c hj=>⟨h.iy _ _ _ (h1 j c hj).1,(h1 j c hj).2⟩) ih
 |bV n len e s xs hn hl=>
  rcases h.live hn hl with⟨ys,h1,h2,h3⟩|⟨h1,h2,h3⟩
  ·rw[←h3];exact .bV n len e s ys h1 h2
  ·exact .dN n len _ h1 h2 h3 rfl
 |eb n e s hn=>
  have au:n<O.length:=(List.getElem?_eq_some_iff.1 hn).1;by_cases hd:∃e' s',O'[n]? =some (.nil e' s')
  ·obtain⟨e',s',hx⟩:=hd;exact .eb n e' s' hx
  ·refine .dN n 0 _ (lt_of_lt_of_le au h.len) (λ e' s' he=>hd ⟨e',s',he⟩) (λ e' s' xs hx=> ?_) rfl;rcases h.obj n au e' s' xs hx with⟨ys,hy,_⟩|⟨_,cr⟩
   ·rw[hn]at hy;cases hy
   ·exact List.length_pos_iff.2 cr
 |dN n len x hn vW hs hx=>
  obtain⟨h1,h2,h3⟩:=h.apK hn vW hs;exact .dN n len x h1 h2 h3 hx
 |di n len i f e s xs hn hl=>
  rcases h.live hn hl with⟨ys,h1,h2,h3⟩|⟨h1,h2,h3⟩
  ·rw[←h3];exact .di n len i f e s ys h1 h2
  ·exact .fa n len i f _ h1 h2 h3 rfl
 |fa n len i f x hn vW hs hx=>
  obtain⟨h1,h2,h3⟩:=h.apK hn vW hs;exact .fa n len i f x h1 h2 h3 hx
 |fn f aX vs h1 _ ih=>exact .fn f aX vs h1 ih
 |agg cs vs h1 _ ih=>exact .agg cs vs h1 ih
 |aK cs vs h1 _ ih=>exact .aK cs vs h1 ih
 |eL n a hn h1=>
  have au:n<O.length:=(List.getElem?_eq_some_iff.1 hn).1;by_cases hd:∃b,O'[n]? =some (.own b)
  ·obtain⟨b,hb⟩:=hd;rw[←(h.own n au b hb).2]at h1⊢;exact .eL n b hb h1
  ·refine .dO n _ (lt_of_lt_of_le au h.len) (λ b hb=>hd ⟨b,hb⟩) (λ g hg=> ?_) h1;obtain⟨⟨c,hc,_⟩,_⟩:=h.cN n au g hg;rw[hn]at hc;cases hc
 |fD n g hn=>
  have au:n<O.length:=(List.getElem?_eq_some_iff.1 hn).1;by_cases hd:∃b,O'[n]? =some (.cN b)
  ·obtain⟨b,hb⟩:=hd;obtain⟨⟨c,hc,hk⟩,h2⟩:=h.cN n au b hb;rw[hn]at hc;cases hc;have:g.val (L n).bc=b.val (L' n).bc:=by unfold fT.val;rw[hk,h2]
   rw[this];exact .fD n b hb
  ·refine .dO n _ (lt_of_lt_of_le au h.len) (λ b hb=> ?_) (λ b hb=>hd ⟨b,hb⟩) (g.val_one _);obtain⟨⟨c,hc⟩,_⟩:=h.own n au b hb;rw[hn]at hc;cases hc
 |dO n x hn cd hng h1=>
  refine .dO n x (lt_of_lt_of_le hn h.len) (λ b hb=> ?_) (λ g hg=> ?_) h1
  ·obtain⟨⟨c,hc⟩,_⟩:=h.own n hn b hb;exact cd c hc
  ·obtain⟨⟨c,hc,_⟩,_⟩:=h.cN n hn g hg;exact hng c hc
def Mk(m:Nat×Nat)(n s:Nat):Prop:=m=(0,0)∨(m=(n,n+1)/\s=1)
def aaA(I:da)(L:Nat->Loc)(O:List ae)(w:World)(l:Loc)(e s:Nat)(xs:List AV):Prop:=
 ∃c:Array Value,(∃m,w.heap[l.bc]? =some (.cells c e m)/\Mk m c.size s)/\c.size=l.cap*s/\xs.length<=l.cap/\l.cap<=maxLen/\0<s/\
  ∀(i:Nat) x,xs[i]? =some x->x.cells.length=s/\∀(j:Nat) a,x.cells[j]? =some a->∃y,c[i*s+j]? =some y/\y.oneCell'=true/\R I L O a y
def fA(w:World)(b:Nat):Option Nat:=
 match w.heap[b]? with
 |some (.cells c _ _)=>some c.size
 |_=>none
theorem gm{w:World}{b o:Nat}{x:Value}(h:w.cell? ⟨b,o,none⟩=some x):b<w.heap.size:=by
 unfold World.cell? at h
 split at h
 ·rename_i c e f hh;exact(Array.getElem?_eq_some_iff.1 hh).1
 ·cases h
inductive OT(w:World):AV->Value->(Nat->Prop)->Prop
 |v (x:Value):x.oneCell'=true->OT w (.v x) x λ _=>False
 |aQ:OT w .aQ (.slice none 0 0) λ _=>False
 |me (a:Option Addr) (cap:Nat):OT w (.sl []) (.slice a 0 cap) λ _=>False
 |sl (xs:List AV) (bc cap s e:Nat) (c:Array Value) (bB:Nat->Nat->Value) (S:Nat->Nat->Nat->Prop) (m:Nat×Nat):
  w.heap[bc]? =some (.cells c e m)->Mk m c.size s->c.size=cap*s->xs.length<=cap->cap<=maxLen->0<s->xs≠[]->
  (∀(i:Nat) (x:AV),xs[i]? =some x->x.cells.length=s)->
  (∀(i:Nat) (x:AV) (j:Nat) (a:AV),xs[i]? =some x->x.cells[j]? =some a->c[i*s+j]? =some (bB i j)/\(bB i j).oneCell'=true)->
  (∀(i:Nat) (x:AV) (j:Nat) (a:AV),xs[i]? =some x->x.cells[j]? =some a->OT w a (bB i j) (S i j))->
  (∀i j b,S i j b->∃x a,xs[i]? =some x/\x.cells[j]? =some a)->(∀i j,¬S i j bc)->(∀i j i' j' b,S i j b->S i' j' b->i=i'/\j=j')->
  OT w (.sl xs) (.slice (some ⟨bc,0,none⟩) xs.length cap) λ b=>b=bc∨∃i j,S i j b
theorem OT.congr{w w':World}{a:AV}{x:Value}{S:Nat->Prop}(h:OT w a x S):(∀b,S b->w'.heap[b]? =w.heap[b]?)->OT w' a x S:=by
 induction h with
 |v x h=>intro _;exact .v x h
 |aQ=>intro _;exact .aQ
 |me a cap=>intro _;exact .me a cap
 |sl xs bc cap s e c bB S m h1 hmk h2 h3 h4 h5 h6 h7 h8 h9 h10 h11 h12 ih=>
  intro hw;exact .sl xs bc cap s e c bB S m ((hw bc (.inl rfl)).trans h1) hmk h2 h3 h4 h5 h6 h7 h8 (λ i x j a hx ha=>ih i x j a hx ha λ b hb=>hw b (.inr ⟨i,j,hb⟩)) h10 h11 h12
theorem OT.read{w:World}{a:AV}{x:Value}{S:Nat->Prop}(h:OT w a x S):∀(I:da) (L:Nat->Loc) (O:List ae),(∀b o v,S b->w.cell? ⟨b,o,none⟩=some v->I b o=some v)->R I L O a x:=by
 induction h with
 |v x h=>intro I L O _;exact .v x h
 |aQ=>intro I L O _;exact .aQ
 |me a cap=>intro I L O _;exact .me a cap
 |sl xs bc cap s e c bB S m h1 hmk h2 h3 h4 h5 h6 h7 h8 h9 h10 h11 h12 ih=>
  intro I L O hI;refine .sl xs bc 0 cap s bB h3 h6 h7 (λ i x j a hx ha=>⟨hI bc _ _ (.inl rfl) ?_,(h8 i x j a hx ha).2⟩) λ i x j a hx ha=>ih i x j a hx ha I L O λ b o v hb hv=>hI b o v (.inr ⟨i,j,hb⟩) hv
  unfold World.cell?;simp[h1,(h8 i x j a hx ha).1]
structure Own(I:da)(L:Nat->Loc)(O:List ae)(w:World):Prop where
 tree:∀(n:Nat) (a:AV),O[n]? =some (.own a)->∀L' O',R (L n).mem L' O' a (L n).val
 cell:∀(n:Nat) (a:AV),O[n]? =some (.own a)->∀b o v,(L n).mem b o=some v->w.cell? ⟨b,o,none⟩=some v
 iy:∀(n:Nat) (a:AV),O[n]? =some (.own a)->∀b o v,(L n).mem b o=some v->∀o',I b o'=none
 live:∀(n:Nat) (a:AV),O[n]? =some (.own a)->∀b o v,(L n).mem b o=some v->∀(m e s:Nat) (xs:List AV),O[m]? =some (.live e s xs)->(L m).bc≠b
 sep:∀(n m:Nat) (a c:AV),O[n]? =some (.own a)->O[m]? =some (.own c)->∀b o o' v v',(L n).mem b o=some v->(L m).mem b o'=some v'->n=m
 deep:∀(n:Nat) (a:AV),O[n]? =some (.own a)->∃S:Nat->Prop,OT w a (L n).val S/\∀b,S b↔∃o v,(L n).mem b o=some v
def LV(L:Nat->Loc)(O:List ae)(b:Nat):Prop:=∃(n:Nat) (e s:Nat) (xs:List AV),O[n]? =some (.live e s xs)/\(L n).bc=b
def OB(L:Nat->Loc)(O:List ae)(b:Nat):Prop:=∃(n:Nat) (a:AV) (o:Nat) (v:Value),O[n]? =some (.own a)/\(L n).mem b o=some v
theorem Own.no{I:da}{L:Nat->Loc}{O:List ae}{w:World}(h:∀(n:Nat) (a:AV),O[n]? ≠some (.own a)):Own I L O w:=
 ⟨λ n a hn=>(h n a hn).elim,λ n a hn=>(h n a hn).elim,λ n a hn=>(h n a hn).elim,λ n a hn=>(h n a hn).elim,λ n _ a _ hn=>(h n a hn).elim,λ n a hn=>(h n a hn).elim⟩
theorem Own.apJ{I I':da}{L L':Nat->Loc}{O O':List ae}{w w':World}(h:Own I L O w)
  (hO:∀(n:Nat) (a:AV),O'[n]? =some (.own a)->O[n]? =some (.own a)/\L' n=L n)
  (hI:∀b o v,I' b o=some v->(∃o v,I b o=some v)∨LV L O b∨w.heap.size<=b∨∃(n:Nat) (a:AV) (o:Nat) (v:Value),O[n]? =some (.own a)/\(L n).mem b o=some v/\∀c,O'[n]? ≠some (.own c))
  (hL:∀(m e s:Nat) (xs:List AV),O'[m]? =some (.live e s xs)->LV L O (L' m).bc∨w.heap.size<=(L' m).bc)
  (hw:∀b,b<w.heap.size->¬LV L O b->w'.heap[b]? =w.heap[b]?):Own I' L' O' w':=by
 have key:∀(n:Nat) (a:AV),O'[n]? =some (.own a)->∀b o v,(L' n).mem b o=some v->(L n).mem b o=some v/\b<w.heap.size/\¬LV L O b:=λ n a hn b o v hv=>by
  obtain⟨h1,h2⟩:=hO n a hn;rw[h2]at hv;exact⟨hv,gm (h.cell n a h1 b o v hv),λ ⟨m,e,s,xs,hm,hb⟩=>h.live n a h1 b o v hv m e s xs hm hb⟩
 refine⟨λ n a hn=> ?_,λ n a hn b o v hv=> ?_,λ n a hn b o v hv o'=> ?_,λ n a hn b o v hv m e s xs hm hb=> ?_,λ n m a c hn hm b o o' v v' hv qX=> ?_,λ n a hn=> ?_⟩
 ·obtain⟨h1,h2⟩:=hO n a hn;rw[h2];exact h.tree n a h1
 ·obtain⟨h0,h1,h2⟩:=key n a hn b o v hv;have:=h.cell n a (hO n a hn).1 b o v h0;rw[←this];exact World.cell?_of_block (a:=⟨b,o,none⟩) (hw b h1 h2)
 ·obtain⟨h0,h1,h2⟩:=key n a hn b o v hv;cases hq:I' b o' with
  |none=>rfl
  |some u=>
   rcases hI b o' u hq with⟨o2,v2,h3⟩|h3|h3|⟨m,c,o2,v2,h3,h4,h5⟩
   ·rw[h.iy n a (hO n a hn).1 b o v h0 o2]at h3;cases h3
   ·exact(h2 h3).elim
   ·omega
   ·have:=h.sep n m a c (hO n a hn).1 h3 b o o2 v v2 h0 h4;subst this;exact(h5 a hn).elim
 ·obtain⟨h0,h1,h2⟩:=key n a hn b o v hv;rcases hL m e s xs hm with h3|h3
  ·rw[hb]at h3;exact h2 h3
  ·omega
 ·exact h.sep n m a c (hO n a hn).1 (hO m c hm).1 b o o' v v' (key n a hn b o v hv).1 (key m c hm b o' v' qX).1
 ·obtain⟨S,h1,h2⟩:=h.deep n a (hO n a hn).1;rw[(hO n a hn).2];refine⟨S,h1.congr λ b hb=> ?_,h2⟩;obtain⟨o,v,hv⟩:=(h2 b).1 hb;obtain⟨_,h3,h4⟩:=key n a hn b o v (by rw[(hO n a hn).2];exact hv);exact hw b h3 h4
theorem Own.step{I I':da}{L L':Nat->Loc}{O O':List ae}{w w':World}(h:Own I L O w)
  (hO:∀(n:Nat) (a:AV),O'[n]? =some (.own a)->O[n]? =some (.own a)/\L' n=L n)
  (hI:∀b o v,I' b o=some v->(∃o v,I b o=some v)∨LV L O b∨w.heap.size<=b)
  (hL:∀(m e s:Nat) (xs:List AV),O'[m]? =some (.live e s xs)->LV L O (L' m).bc∨w.heap.size<=(L' m).bc)
  (hw:∀b,b<w.heap.size->¬LV L O b->w'.heap[b]? =w.heap[b]?):Own I' L' O' w':=
 h.apJ hO (λ b o v hv=>by
   rcases hI b o v hv with h1|h1|h1
   ·exact .inl h1
   ·exact .inr (.inl h1)
   ·exact .inr (.inr (.inl h1))) hL hw
theorem Own.same{I I':da}{L L':Nat->Loc}{O O':List ae}{w w':World}(h:Own I L O w)
  (hO:∀(n:Nat) (a:AV),O'[n]? =some (.own a)->O[n]? =some (.own a)/\L' n=L n)
  (hI:∀b o v,I' b o=some v->(∃o v,I b o=some v)∨LV L O b∨w.heap.size<=b)
  (hL:∀(m e s:Nat) (xs:List AV),O'[m]? =some (.live e s xs)->LV L O (L' m).bc∨w.heap.size<=(L' m).bc) (hw:w'=w):Own I' L' O' w':=
 h.step hO hI hL λ _ _ _=>by rw[hw]
theorem Own.aU{I:da}{L:Nat->Loc}{O:List ae}{w w':World}(h:Own I L O w)(hw:∀b,b<w.heap.size->¬LV L O b->w'.heap[b]? =w.heap[b]?):Own I L O w':=
 h.step (λ _ _ h=>⟨h,rfl⟩) (λ _ o v hv=> .inl ⟨o,v,hv⟩) (λ m e s xs h=> .inl ⟨m,e,s,xs,h,rfl⟩) hw
def pU(I:da)(L:Nat->Loc)(O:List ae)(w:World)(l:Loc):fT->Prop
 | .mp es=>∃(en:Array MapEntry) (clock:Nat),w.heap[l.bc]? =some (.map en clock)/\en.size=es.length/\∀(i:Nat) k v,es[i]? =some (k,v)->∃e,en[i]? =some e/\R I L O k e.key/\R I L O v e.val
 | .it s pos=>w.heap[l.bc]? =some (.stringIter s pos)
def v7(w:World)(b:Nat):Prop:=b<w.heap.size/\∀c e z,w.heap[b]? ≠some (.cells c e z)
theorem pU.no{I:da}{L:Nat->Loc}{O:List ae}{w:World}{l:Loc}{g:fT}(h:pU I L O w l g):v7 w l.bc:=by
 cases g with
 |mp es=>
  obtain⟨en,c,h1,_⟩:=h;exact⟨(Array.getElem?_eq_some_iff.1 h1).1,λ c e z hc=>by rw[h1]at hc;cases hc⟩
 |it s p=>exact⟨(Array.getElem?_eq_some_iff.1 h).1,λ c e z hc=>by rw[show w.heap[l.bc]? =_ from h]at hc;cases hc⟩
theorem v7.cell{w:World}{b o:Nat}(h:v7 w b):w.cell? ⟨b,o,none⟩=none:=by
 unfold World.cell?
 split
 ·rename_i c e f hh;exact(h.2 _ _ _ hh).elim
 ·rfl
structure Gh(I:da)(L:Nat->Loc)(O:List ae)(w:World):Prop where
 ok:∀(n:Nat) (g:fT),O[n]? =some (.cN g)->pU I L O w (L n) g
 sep:∀(n m:Nat) (g h:fT),O[n]? =some (.cN g)->O[m]? =some (.cN h)->(L n).bc=(L m).bc->n=m
def GB(L:Nat->Loc)(O:List ae)(b:Nat):Prop:=∃(n:Nat) (g:fT),O[n]? =some (.cN g)/\(L n).bc=b
theorem Gh.no{I:da}{L:Nat->Loc}{O:List ae}{w:World}(h:∀(n:Nat) (g:fT),O[n]? ≠some (.cN g)):Gh I L O w:=
 ⟨λ n a hn=>(h n a hn).elim,λ n _ a _ hn=>(h n a hn).elim⟩
theorem pU.mono{I I':da}{L L':Nat->Loc}{O O':List ae}{w w':World}{l l':Loc}{g:fT}(h:pU I L O w l g)(hl:l'.bc=l.bc)(hR:∀a x,R I L O a x->R I' L' O' a x)(hw:w'.heap[l.bc]? =w.heap[l.bc]?):pU I' L' O' w' l' g:=by
 cases g with
 |mp es=>
  obtain⟨en,c,h1,h2,h3⟩:=h;refine⟨en,c,by rw[hl,hw];exact h1,h2,λ i k v hi=> ?_⟩;obtain⟨e,h4,h5,h6⟩:=h3 i k v hi;exact⟨e,h4,hR _ _ h5,hR _ _ h6⟩
 |it s p=>
  have h0:w.heap[l.bc]? =some (.stringIter s p):=h
  show w'.heap[l'.bc]? =some (.stringIter s p);rw[hl,hw];exact h0
theorem Gh.step{I I':da}{L L':Nat->Loc}{O O':List ae}{w w':World}(h:Gh I L O w)
  (hO:∀(n:Nat) (g:fT),O'[n]? =some (.cN g)->O[n]? =some (.cN g)/\(L' n).bc=(L n).bc)
  (hR:∀a x,R I L O a x->R I' L' O' a x)
  (hw:∀b,v7 w b->w'.heap[b]? =w.heap[b]?):Gh I' L' O' w':=by
 refine⟨λ n g hn=> ?_,λ n m g k hn hm hb=> ?_⟩
 ·obtain⟨h1,h2⟩:=hO n g hn;exact(h.ok n g h1).mono h2 hR (hw _ (h.ok n g h1).no)
 ·obtain⟨h1,h2⟩:=hO n g hn;obtain⟨h3,h4⟩:=hO m k hm;exact h.sep n m g k h1 h3 (by rw[←h2,←h4];exact hb)
structure Inv(I:da)(L:Nat->Loc)(O:List ae)(w:World):Prop where
 iy:∀b o x,I b o=some x->w.cell? ⟨b,o,none⟩=some x
 obj:∀(n:Nat) e s xs,O[n]? =some (.live e s xs)->aaA I L O w (L n) e s xs
 sep:∀(n m:Nat) e s xs e' s' ys,O[n]? =some (.live e s xs)->O[m]? =some (.live e' s' ys)->(L n).bc=(L m).bc->n=m
 dT:∀(n:Nat) e s xs o,O[n]? =some (.live e s xs)->I (L n).bc o=none
 fix:∀p∈k9,I p.1 p.2.1=some p.2.2
 bc:∀q∈kK,fA w q.1=some q.2/\∃v,I q.1 0=some v/\adq q.1 v=true
 ow:Own I L O w
 gh:Gh I L O w
def LB(L:Nat->Loc)(O:List ae)(b:Nat):Prop:=LV L O b∨OB L O b∨GB L O b
theorem oU{L:Nat->Loc}{b:Nat}:¬LB L [] b:=by
 rintro(⟨n,e,s,xs,h,_⟩|⟨n,a,o,v,h,_⟩|⟨n,g,h,_⟩)<;>simp at h
structure Frm(own:Nat->Prop)(w w':World):Prop where
 os:w'.os=w.os
 tape:w'.tape=w.tape
 output:w'.output=w.output
 size:w.heap.size<=w'.heap.size
 block:∀b,b<w.heap.size->¬own b->w'.heap[b]? =w.heap[b]?
theorem Frm.refl(own:Nat->Prop)(w:World):Frm own w w:=⟨rfl,rfl,rfl,le_refl _,λ _ _ _=>rfl⟩
theorem Frm.trans{own auf:Nat->Prop}{w w' w'':World}(h:Frm own w w')(k:Frm auf w' w'')(ho:∀b,auf b->own b∨w.heap.size<=b):Frm own w w'':=
 ⟨k.os.trans h.os,k.tape.trans h.tape,k.output.trans h.output,le_trans h.size k.size,λ b hb hn=>
   (k.block b (lt_of_lt_of_le hb h.size) (λ hc=>by rcases ho b hc with h1|h1<;>first|exact hn h1|omega)).trans (h.block b hb hn)⟩
theorem af8{w:World}{b n:Nat}(h:fA w b=some n):b<w.heap.size:=by
 unfold fA at h
 split at h
 ·rename_i hq;exact(Array.getElem?_eq_some_iff.1 hq).1
 ·cases h
theorem af9{w w':World}{b:Nat}(h:w'.heap[b]? =w.heap[b]?):fA w' b=fA w b:=by
 unfold fA;rw[h]
theorem Inv.lM{I I':da}{L:Nat->Loc}{O:List ae}{w w':World}(hi:Inv I L O w)(hw:∀b,b<w.heap.size->¬LB L O b->w'.heap[b]? =w.heap[b]?)(hI:∀b o x,I b o=some x->I' b o=some x):
  ∀q∈kK,fA w' q.1=some q.2/\∃v,I' q.1 0=some v/\adq q.1 v=true:=by
 intro q hq;obtain⟨h1,v,h2,h3⟩:=hi.bc q hq;refine⟨?_,v,hI _ _ _ h2,h3⟩;rw[af9 (hw q.1 (af8 h1) ?_)]
 ·exact h1
 ·rintro(⟨n,e,s,xs,hn,hb⟩|⟨n,a,o,u,hn,hb⟩|⟨n,g,hn,hb⟩)
  rotate_right
  ·have h4:=(hi.gh.ok n g hn).no.cell (o:=0);rw[hb,hi.iy _ _ _ h2]at h4;cases h4
  ·have:=hi.dT n e s xs 0 hn;rw[hb,h2]at this;cases this
  ·have:=hi.ow.iy n a hn q.1 o u hb 0;rw[h2]at this;cases this
theorem Inv.sC{I I':da}{L:Nat->Loc}{O:List ae}{w:World}(hi:Inv I L O w)(hI:∀b o x,I b o=some x->I' b o=some x):
 ∀q∈kK,fA w q.1=some q.2/\∃v,I' q.1 0=some v/\adq q.1 v=true:=hi.lM (λ _ _ _=>rfl) hI
theorem Frm.below{w w':World}(h:Frm (λ _=>False) w w'):RowKit.Below w.heap.size w w':=
 ⟨h.os,h.tape,h.output,h.size,λ k hk=>h.block k hk (λ x=>x)⟩
def RL(I:da)(L:Nat->Loc)(O:List ae)(as:List AV)(vs:Array Value):Prop:=
 as.length=vs.size/\∀(i:Nat) a x,as[i]? =some a->vs[i]? =some x->R I L O a x
structure Good(I:da)(L:Nat->Loc)(O:List ae)(w:World)(I':da)(L':Nat->Loc)(O':List ae)(w':World):Prop where
 inv:Inv I' L' O' w'
 ext:Ext I L O I' L' O'
 mE:Frm (LB L O) w w'
 lb:∀b,LB L' O' b->LB L O b∨w.heap.size<=b
 iM:∀b o x,I' b o=some x->I b o=some x∨LB L O b∨w.heap.size<=b
def Enters(P:Program)(f:FuncId):Prop:=∃fn,P.funcs[f]? =some fn/\fn.body.isSome=true/\(fn.name== "runtime.NumGoroutine")=false
def js(P:Program)(f:FuncId)(args:List AV)(O:List ae)(res:AV)(O':List ae):Prop:=
 Enters P f/\∀I L w vs,Inv I L O w->RL I L O args vs->Calls P f vs w λ e w'=>∃y I' L',e= .returned y/\R I' L' O' res y/\Good I L O w I' L' O' w'
def aI(P:Program)(f:FuncId)(args:List AV)(res:AV):Prop:=js P f args [] res []
end Go.Ab
namespace Go.Ab
theorem Mk.free{m:Nat×Nat}{n s j:Nat}(h:Mk m n s)(hj:j<n):(decide (m.1<=j)&&decide (j<m.2))=false:=by
 rcases h with rfl|⟨rfl,_⟩<;>simp<;>omega
theorem Mk.size{m:Nat×Nat}{n s k:Nat}(h:Mk m n s)(he:k=n):Mk m k s:=he▸h
theorem gZ{P:Program}(g o s:Nat)(t:TypeId)(m:Nat×Nat):∀(vs:List Value) (i:Nat) (cur:Array Value) (w:World),w.heap[g]? =some (.cells cur t m)->Mk m cur.size s->o+i+vs.length<=cur.size->(∀v∈vs,v.oneCell'=true)->
  (storeCells ⟨g,o,none⟩ vs i).run P w= .ok () (w.setRow g (cur.toList.take (o+i)++vs++cur.toList.drop (o+i+vs.length)).toArray)
 | [],i,cur,w,hg,_,_,_=>by
   simp only[storeCells,append_nil,List.length_nil,add_zero,List.take_append_drop,Array.toArray_toList];rw[setRow_self w g cur t m hg]
   rfl
 |v::rest,i,cur,w,hg,hm,hl,h1=>by
  have hl':o+i+(rest.length+1)<=cur.size:=by simpa using hl
  have hi:o+i<cur.size:=by omega
  have ayv:(⟨g,o,none⟩:Addr).add i=⟨g,o+i,none⟩:=by unfold Addr.add;split<;>simp_all
  have ax9:w.frozen? ⟨g,o+i,none⟩=false:=by
   obtain⟨lo,up⟩:=m;have:=hm.free hi;simpa [World.frozen?,hg]using this
  have iu:(store ((⟨g,o,none⟩:Addr).add i) v).run P w= .ok () (w.setRow g (cur.setIfInBounds (o+i) v)):=by
   rw[ayv,run_store P w _ v _ (h1 v (by simp)),show w.cell? ⟨g,o+i,none⟩=some cur[o+i] by simp[World.cell?,hg,hi]];simp[ax9,setCell_eq_setRow w g (o+i) cur t m v hg]
  have ih:=gZ (P:=P) g o s t m rest (i+1) (cur.setIfInBounds (o+i) v) (w.setRow g (cur.setIfInBounds (o+i) v)) (setRow_heap w g cur _ t _ hg) (hm.size (by simp)) (by simp;omega) (λ x hx=>h1 x (by simp[hx]));simp only[storeCells,Sem.run_bind,iu,Result.andThen_ok,ih,setRow_setRow];congr 3
  have aoS:∀(c:List Value),o+i+(rest.length+1)<=c.length->(c.set (o+i) v).take (o+(i+1))++rest++(c.set (o+i) v).drop (o+(i+1)+rest.length)=c.take (o+i)++v::rest++c.drop (o+i+(rest.length+1)):=by
   intro c hc
   have e1:(c.set (o+i) v).take (o+(i+1))=c.take (o+i)++ [v]:=by
    apply ext_getElem?;intro k;by_cases hk:k<o+i
    ·rw[getElem?_take,if_pos (by omega),getElem?_set_ne (by omega),getElem?_append_left (by simp;omega),getElem?_take,if_pos hk]
    ·by_cases hk2:k=o+i
     ·subst hk2;rw[getElem?_take,if_pos (by omega),getElem?_set_self (by omega),getElem?_append_right (by simp;omega),length_take];simp[min_eq_left (show o+i<=c.length by omega)]
     ·rw[getElem?_take,if_neg (by omega),getElem?_eq_none (by simp;omega)]
   have e2:(c.set (o+i) v).drop (o+(i+1)+rest.length)=c.drop (o+i+(rest.length+1)):=by
    apply ext_getElem?;intro k;rw[getElem?_drop,getElem?_drop,getElem?_set_ne (by omega)];congr 1;omega
   rw[e1,e2];simp
  have:=aoS cur.toList (by simpa using hl');simpa [Array.toList_setIfInBounds]using this
theorem rB{P:Program}(w:World)(t ty e:TypeId)(i:TypeInfo)(ht:P.underlying t=some (.slice e))(hi:P.info? e=some i){m0:Nat×Nat}{s:Nat}
  (g iY pt:Nat) (cur:Array Value) (hg:w.heap[g]? =some (.cells cur e m0)) (hmk:Mk m0 cur.size s)
  (a:Addr) (m c:Nat) (news:List Value) (hl:news.length=m*i.size) (au6:∀j u,news[j]? =some u->w.cell? (a.add j)=some u) (h1:∀u∈news,u.oneCell'=true)
  (j1:iY+m<=pt) (lW:iY*i.size+news.length<=cur.size):
  (Builtin.append_ #[t,t] ty #[.slice (some ⟨g,0,none⟩) iY pt,.slice (some a) m c]).run P w=
   .ok (.slice (some ⟨g,0,none⟩) (iY+m) pt) (w.setRow g (cur.toList.take (iY*i.size)++news++cur.toList.drop (iY*i.size+news.length)).toArray):=by
 have hf:=run_firstCells_some (P:=P) w i.size m a m c news hl au6;have iu:=gZ (P:=P) g (iY*i.size) s e m0 news 0 cur w hg hmk (by simpa using lW) h1;simp only[add_zero]at iu;simp[Builtin.append_,run_underlying ht,sizeOf,typeInfo,hi,Builtin.lenOf,j1,hf,Addr.add_lit,iu]
end Go.Ab
namespace Go.Ab
mutual
def AV.bO(s:Nat->Nat):AV->AV
 | .top=> .top
 | .v x=> .v x
 | .aQ=> .aQ
 | .oF=> .oF
 | .sl xs=> .sl (AV.pv s xs)
 | .bW x f=> .bW (x.bO s) f
 | .row n l=> .row (s n) l
 | .ptr n l i f=> .ptr (s n) l i f
 | .fn f cs=> .fn f (AV.pv s cs)
 | .agg cs=> .agg (AV.pv s cs)
 | .aK cs=> .aK (AV.pv s cs)
 | .own n=> .own (s n)
def AV.pv(s:Nat->Nat):List AV->List AV
 | []=>[]
 |x::xs=>x.bO s::AV.pv s xs
end
def fT.bO(s:Nat->Nat):fT->fT
 | .mp es=> .mp (es.map λ p=>(p.1.bO s,p.2.bO s))
 | .it a b=> .it a b
theorem fT.wW(s:Nat->Nat)(g:fT):(g.bO s).kY=g.kY:=by cases g<;>rfl
def ae.bO(s:Nat->Nat):ae->ae
 | .cN g=> .cN (g.bO s)
 | .dead=> .dead
 | .nil e s=> .nil e s
 | .live e k xs=> .live e k (xs.map (AV.bO s))
 | .own a=> .own a
inductive D where
 |x (i:Nat)
 |c (a:AV)
 |cell (i j:Nat)
 |ext (i j:Nat)
 |sl (l:D)
 |agg (l:List D)
 |fn (f:FuncId) (l:List D)
 |ip (d:D) (f:Nat)
instance:Inhabited D:=⟨.x 0⟩
inductive SV where
 |d (x:D)
 |row (n:Nat) (l:D)
 |ptr (n f:Nat)
 |rp (n:Nat) (l i:D) (f:Nat)
 |ip (x:D) (f:Nat)
 |agg (cs:List SV)
 |aK (cs:List SV)
 |top
instance:Inhabited SV:=⟨.top⟩
inductive SO where
 |dead
 |box (e:Nat) (cs:List SV)
 |row (nl:Bool) (e s:Nat) (l:D)
instance:Inhabited SO:=⟨.dead⟩
structure jw where
 n:Nat
 args:List SV
 aj:List SO
 m:Nat
 res:SV
 cq:List SO
 aU:List Nat
end Go.Ab
namespace Go.Ab
inductive aE where
 |t (n:Nat)
 |c (a:AV)
abbrev Env:=Nat->AV
def Env.set(e:Env)(t:Nat)(a:AV):Env:=λ k=>if k=t then a else e k
def aE.ev(e:Env):aE->AV
 | .t n=>e n
 | .c a=>a
def dH(n:Option Nat)(x:AV)(f:Nat):AV:=
 match n with
 |none=>x.cells.getD f .top
 |some m=>if f=0/\x.isAgg=true/\x.cells.length=m then x else .agg ((x.cells.drop f).take m)
def lN(x:AV)(f:Nat)(y:AV):AV:=
 if f=0/\y.cells.length=x.cells.length then y else .agg (x.cells.take f++y.cells++x.cells.drop (f+y.cells.length))
def AV.storable(x:AV):Bool:=x.cells.all AV.cI
inductive PU where
 |b2s
 |tt (neg:Bool)
 |mT (neg:Bool)
 |qG (neg:Bool)
 |min
 |max
 |amt
def u8s:List AV->Option (List UInt8)
 | []=>some []
 | .v (.int .u8 n)::r=>(u8s r).map (UInt8.ofNat n.toNat::·)
 |_=>none
def w8(o:PU)(xs:List AV):Option AV:=
 match o,xs with
 | .b2s,[.sl ys]=>(u8s ys).map λ l=> .v (.string ⟨l.toArray⟩)
 | .b2s,[.aQ]=>some (.v (.string ⟨#[]⟩))
 | .amt,[.aQ]=>some (.v (.int .i64 0))
 | .tt neg,[.aQ]=>some (.v (.bool (neg !=true)))
 | .tt neg,[.sl (_::_)]=>some (.v (.bool (neg !=false)))
 | .mT neg,[.v (.pointer none)]=>some (.v (.bool (neg !=true)))
 | .mT neg,[.bW _ _]=>some (.v (.bool (neg !=false)))
 | .qG neg,[.v .nilIface]=>some (.v (.bool (neg !=true)))
 | .qG neg,[.oF]=>some (.v (.bool (neg !=false)))
 | .min,[.v (.int k a),.v (.int k' b)]=>if k=k' then some (.v (.int k (if b<a then b else a)))else none
 | .max,[.v (.int k a),.v (.int k' b)]=>if k=k' then some (.v (.int k (if a<b then b else a)))else none
 |_,_=>none
def puK(o:PU)(xs:List AV)(K:AV->Prop):Prop:=
 match w8 o xs with
 |some v=>K v
 |none=>False
def afr:Value->Value->Bool
 | .int j a,.int k b=>decide (j=k)&&decide (a=b)
 | .string a,.string b=>decide (a=b)
 | .bool a,.bool b=>decide (a=b)
 |_,_=>false
def kX(k:Value):List (AV×AV)->Nat->Option (Nat×AV)
 | [],_=>none
 |(.v k',v)::es,i=>if afr k k'=true then some (i,v)else kX k es (i+1)
 |_::es,i=>kX k es (i+1)
inductive KD where
 |int (k:IntKind)
 |str
 |bool
def KD.ok:KD->Value->Bool
 | .int k,.int j _=>decide (j=k)
 | .str,.string _=>true
 | .bool,.bool _=>true
 |_,_=>false
def KD.all(d:KD)(es:List (AV×AV)):Bool:=es.all λ p=>match p.1 with
 | .v k=>d.ok k
 |_=>false
def KD.of:TypeDesc->Option KD
 | .int k=>some (.int k)
 | .string=>some .str
 | .bool=>some .bool
 |_=>none
def lT(k:Value)(v:AV)(es:List (AV×AV)):List (AV×AV):=match kX k es 0 with
 |none=>es++ [(.v k,v)]
 |some (i,_)=>es.set i (.v k,v)
def fH(O:List ae)(i:Nat):Bool:=match O[i]? with
 |some (.live _ s [_])=>s !=1
 |_=>false
def mR(O:List ae)(es:List (AV×AV)):Bool:=es.all λ p=>match p.1 with
 | .ptr i 1 0 0=>fH O i
 |_=>false
def kV(j:Nat):List (AV×AV)->Nat->Option (Nat×AV)
 | [],_=>none
 |(.ptr k _ _ _,v)::es,i=>if j=k then some (i,v)else kV j es (i+1)
 |_::es,i=>kV j es (i+1)
def qp(j:Nat)(v:AV)(es:List (AV×AV)):List (AV×AV):=match kV j es 0 with
 |none=>es++ [(.ptr j 1 0 0,v)]
 |some (i,_)=>es.set i (.ptr j 1 0 0,v)
inductive dZ where
 |zP
 |afh (ok:Bool) (d:KD) (z:AV) (m k:aE)
 |lT (d:KD) (m k v:aE)
 |ae1 (ok:Bool) (z:AV) (m k:aE)
 |qp (m k v:aE)
 |uj (x:aE)
 |uq (x:aE)
 |s2b (e:Nat) (x:aE)
 |xu (e:Nat) (x:aE)
 |yU (neg:Bool) (x:aE)
 |peq (neg:Bool) (x y:aE)
 |stuck
 |ir (e s len:Nat) (z:AV) (parts:List (Nat×aE))
 |pu (o:PU) (args:List aE)
 |jN (e s bytes:Nat) (x y:aE)
 |bt (x:aE)
 |pick (c a b:aE)
 |alloc (e s:Nat) (z:AV)
 |box (e s:Nat) (x:aE)
 |build (z:List AV) (parts:List (Nat×Nat×aE))
 |buildSlice (e s len:Nat) (z:AV) (parts:List (Nat×aE))
 |load (n:Option Nat) (x:aE)
 |store (m:Nat) (x y:aE)
 |bin (op:BinOp) (x y:aE)
 |beq (neg:Bool) (x y:aE)
 |un (op:UnOp) (x:aE)
 |jo (k:IntKind) (x:aE)
 |dz (off:Nat) (x:aE)
 |yg (off:Nat) (n:Option Nat) (x:aE)
 |kf (s:Nat) (x i:aE)
 |u7 (m s:Nat) (x i:aE)
 |eB (x i:aE)
 |cL (x:aE) (lo hi:Option aE)
 |cw (s:Nat) (x:aE) (lo hi:Option aE)
 |mk (e s bytes:Nat) (z:AV) (len cap:aE)
 |dI (x:aE)
 |cz (x:aE)
 |app (e s bytes:Nat) (x y:aE)
 |ext (x:aE) (i:Nat)
 |ov (x:aE)
 |tj (f:FuncId) (aX:List aE)
 |call (f:FuncId) (args:List aE)
 |eJ (x:aE) (args:List aE)
 |lA (f:FuncId) (args:List aE)
 |jf (x:aE) (args:List aE)
 |jX (f:FuncId) (args:List aE)
 |ik (x:aE) (args:List aE)
 |kS (f:FuncId) (args:List aE)
 |fK (nl:Bool) (e s:Nat) (f:FuncId) (args:List aE)
 |gu (k e s:Nat) (z:AV)
 |lg (k e s:Nat) (x:aE)
 |mkF (e s bytes:Nat) (z:AV) (len cap:aE)
 |xr (k e s bytes:Nat) (z:AV) (len cap:aE)
 |gr (k e s len:Nat) (z:AV) (parts:List (Nat×aE))
 |abS (e s bytes:Nat) (z:AV) (x n:aE)
 |cut (s:Nat) (x:aE) (lo hi:Option aE)
 |ia (gs:List jw) (f:FuncId) (args:List aE)
 |jd (gs:List jw) (f:FuncId) (args:List aE)
 |pJ (rd:List Nat) (f:FuncId) (args:List aE)
 |pK (rd:List Nat) (f:FuncId) (args:List aE)
 |n8 (kp:List Nat) (f:FuncId) (args:List aE)
def pz(op:BinOp)(k:IntKind)(a b:Int):Option Value:=
 match op with
 | .add=>some (.int k (k.wrap (a+b)))
 | .sub=>some (.int k (k.wrap (a- b)))
 | .mul=>some (.int k (k.wrap (a*b)))
 | .quo=>if b≠0 then some (.int k (k.wrap (a.tdiv b)))else none
 | .rem=>if b≠0 then some (.int k (a.tmod b))else none
 | .and=>some (.int k (k.wrap (BitVec.ofInt k.bits a&&&BitVec.ofInt k.bits b).toNat))
 | .or=>some (.int k (k.wrap (BitVec.ofInt k.bits a|||BitVec.ofInt k.bits b).toNat))
 | .xor=>some (.int k (k.wrap (BitVec.ofInt k.bits a^^^BitVec.ofInt k.bits b).toNat))
 | .eql=>some (.bool (a==b))
 | .neq=>some (.bool (a !=b))
 | .lss=>some (.bool (a<b))
 | .leq=>some (.bool (a<=b))
 | .gtr=>some (.bool (a>b))
 | .geq=>some (.bool (a≥b))
 |_=>none
def agn(op:BinOp)(k:IntKind)(a b:Int):Option Value:=
 match op with
 | .shl=>if 0<=b then some (.int k (k.wrap (a*2^(min b.toNat k.bits))))else none
 | .shr=>if 0<=b then some (.int k (a.fdiv (2^(min b.toNat k.bits))))else none
 |_=>none
def zo(op:BinOp)(a b:ByteArray):Option Value:=
 match op with
 | .add=>if((a.size+b.size:Nat):Int)<=IntKind.i64.max then some (.string (a++b))else none
 | .eql=>some (.bool (a.toList==b.toList))
 | .neq=>some (.bool !(a.toList==b.toList))
 | .lss=>some (.bool (Op.bytesLess a.toList b.toList))
 | .leq=>some (.bool (Op.bytesLess a.toList b.toList||a.toList==b.toList))
 | .gtr=>some (.bool !(Op.bytesLess a.toList b.toList||a.toList==b.toList))
 | .geq=>some (.bool !(Op.bytesLess a.toList b.toList))
 |_=>none
def BinOp.eh:BinOp->Bool
 | .shl| .shr=>true
 |_=>false
def j8(op:BinOp)(x y:Value):Option Value:=
 match x,y with
 | .int k a,.int k' b=>if BinOp.eh op=true then agn op k a b else if k=k' then pz op k a b else none
 | .string a,.string b=>zo op a b
 |_,_=>none
def sun(op:UnOp)(x:Value):Option Value:=
 match op,x with
 | .neg,.int k n=>some (.int k (k.wrap (0- n)))
 | .not,.bool b=>some (.bool !b)
 |_,_=>none
def iO(e:Env)(z:List AV):List (Nat×Nat×aE)->(AV->Prop)->Prop
 | [],K=>K (.agg z)
 |(off,size,x)::r,K=>(x.ev e).cells.length=size/\((x.ev e).cI||(x.ev e).isAgg)=true/\off+size<=z.length/\
  iO e (z.take off++(x.ev e).cells++z.drop (off+size)) r K
def lP(e:Env)(s:Nat)(xs:List AV):List (Nat×aE)->(List AV->Prop)->Prop
 | [],K=>K xs
 |(i,x)::r,K=>(x.ev e).cells.length=s/\(x.ev e).storable=true/\i<xs.length/\lP e s (xs.set i (x.ev e)) r K
def fq(d:Int)(e:Env):Option aE->(Int->Prop)->Prop
 |none,K=>K d
 |some x,K=>match x.ev e with| .v (.int _ i)=>K i|_=>False
def qd(O:List ae)(y:AV)(K:List AV->Prop):Prop:=
 match y with
 | .aQ=>K []
 | .sl ys=>K ys
 | .row n len=>match O[n]? with
   |some (.live _ _ xs)=>xs.length=len/\K xs
   |some (.nil _ _)=>len=0/\K []
   |_=>False
 |_=>False
mutual
def AV.ag:AV->Bool
 | .top| .v _| .aQ| .oF=>true
 | .sl xs=>AV.ad xs
 | .bW x _=>x.ag
 | .row _ _| .ptr _ _ _ _=>false
 | .fn _ cs=>AV.ad cs
 | .agg cs=>AV.ad cs
 | .aK vs=>AV.ad vs
 | .own _=>false
def AV.ad:List AV->Bool
 | []=>true
 |x::xs=>x.ag&&AV.ad xs
end
def jl(O:List ae)(a:AV):AV:=
 match a with
 | .row n len=>match O[n]? with
   |some (.live _ _ xs)=>if xs.length=len then .sl xs else a
   |some (.nil _ _)=>if len=0 then .sl []else a
   |_=>a
 | .own n=>match O[n]? with
   |some (.own b)=>b
   |_=>a
 |a=>a
def AV.flat:AV->Bool
 | .v _=>true
 | .aK vs=>vs.all λ x=>match x with| .v _=>true|_=>false
 |_=>false
def eM(O:List ae)(a:AV):List ae:=
 match a with
 | .row n _=>O.set n .dead
 | .own n=>O.set n .dead
 |_=>O
def yK(O:List ae)(args:List AV)(res:AV):List ae:=if res.flat=true then O else args.foldl eM O
def gY(O:List ae)(x:AV)(t s bytes:Nat)(ys:List AV)(K:AV->List ae->Prop):Prop:=
 match x with
 | .aQ=>ys.length*bytes<=140737488355328/\ys.length<=maxLen/\(ys= []->K .aQ O)/\(ys≠[]->K (.row O.length ys.length) (O++ [.live t s ys]))
 | .row n len=>match O[n]? with
   |some (.live t' s' xs)=>t'=t/\s'=s/\xs.length=len/\(len+ys.length)*bytes<=140737488355328/\len+ys.length<=maxLen/\
    K (.row n (len+ys.length)) (O.set n (.live t s (xs++ys)))
   |some (.nil t' s')=>t'=t/\s'=s/\len=0/\ys.length*bytes<=140737488355328/\ys.length<=maxLen/\
    (ys= []->K (.row n 0) O)/\(ys≠[]->K (.row n ys.length) (O.set n (.live t s ys)))
   |_=>False
 |_=>False
def aE.okc:aE->Bool
 | .t _=>true
 | .c a=>a.ag
def refs:AV->List Nat
 | .row n _=>[n]
 | .ptr n _ _ _=>[n]
 | .own n=>[n]
 |_=>[]
def AV.one:AV->Bool
 | .row n _=>n==0
 | .ptr n _ _ _=>n==0
 | .own n=>n==0
 |x=>x.ag
def ae.ad:ae->Bool
 | .live _ _ xs=>AV.ad xs
 | .cN (.mp es)=>es.all λ p=>p.1.ag&&p.2.ag
 |_=>true
def wpOp(P:Program)(o:dZ)(e:Env)(O:List ae)(K:AV->List ae->Prop):Prop:=
 match o with
 | .stuck=>False
 | .ir _ s len z parts=>lP e s (List.replicate len z) parts λ xs=>AV.ad xs=true/\K (.sl xs) O
 | .pu o args=>AV.ad (args.map λ x=>jl O (x.ev e))=true/\puK o (args.map λ x=>jl O (x.ev e)) λ v=>K v O
 | .jN t s bytes x y=>match y.ev e with
   | .v (.string b)=>s=1/\gY O (x.ev e) t s bytes (b.data.toList.map λ c=> .v (.int .u8 c.toNat)) K
   |_=>False
 | .bt x=>K (x.ev e) O
 | .pick c a b=>match c.ev e with
   | .v (.bool t)=>K (if t then a.ev e else b.ev e) O
   |_=>False
 | .alloc t s z=>K (.ptr O.length 1 0 0) (O++ [.live t s [z]])
 | .box t s x=>(x.ev e).cells.length=s/\(x.ev e).storable=true/\K (.ptr O.length 1 0 0) (O++ [.live t s [x.ev e]])
 | .build z parts=>iO e z parts λ a=>K a O
 | .buildSlice t s len z parts=>lP e s (List.replicate len z) parts λ xs=>K (.row O.length len) (O++ [.live t s xs])
 | .gu k t s z=>z.ag=true/\O[k]? =some (.nil t s)/\K (.ptr k 1 0 0) (O.set k (.live t s [z]))
 | .lg k t s x=>x.okc=true/\O[k]? =some (.nil t s)/\(x.ev e).cells.length=s/\(x.ev e).storable=true/\K (.ptr k 1 0 0) (O.set k (.live t s [x.ev e]))
 | .gr k t s len z parts=>z.ag=true/\parts.all (λ p=>p.2.okc)=true/\lP e s (List.replicate len z) parts λ xs=>O[k]? =some (.nil t s)/\xs≠[]/\K (.row k len) (O.set k (.live t s xs))
 | .load n x=>match x.ev e with
   | .bW y f=>f+n.getD 1<=y.cells.length/\K (dH n y f) O
   | .ptr k len i f=>match O[k]? with
     |some (.live _ _ xs)=>xs.length=len/\i<len/\f+n.getD 1<=(xs.getD i .top).cells.length/\K (dH n (xs.getD i .top) f) O
     |_=>False
   |_=>False
 | .store m x y=>match x.ev e with
   | .ptr k len i f=>match O[k]? with
     |some (.live t s xs)=>xs.length=len/\i<len/\(y.ev e).cells.length=m/\(y.ev e).storable=true/\f+m<=(xs.getD i .top).cells.length/\
      K .top (O.set k (.live t s (xs.set i (lN (xs.getD i .top) f (y.ev e)))))
     |_=>False
   |_=>False
 | .bin op x y=>match x.ev e,y.ev e with
   | .v a,.v b=>match j8 op a b with
     |some z=>K (.v z) O
     |none=>False
   |_,_=>False
 | .beq neg x y=>match x.ev e,y.ev e with
   | .v (.bool a),.v (.bool b)=>K (.v (.bool (neg !=(a==b)))) O
   |_,_=>False
 | .un op x=>match x.ev e with
   | .v a=>match sun op a with
     |some z=>K (.v z) O
     |none=>False
   |_=>False
 | .jo k x=>match x.ev e with
   | .v (.int _ n)=>K (.v (.int k (k.wrap n))) O
   |_=>False
 | .dz off x=>match x.ev e with
   | .bW y f=>K (.bW y (f+off)) O
   | .ptr n len i f=>match O[n]? with
     |some (.live _ _ xs)=>xs.length=len/\K (.ptr n len i (f+off)) O
     |_=>False
   |_=>False
 | .yg off n x=>(x.ev e).isAgg=true/\off+n.getD 1<=(x.ev e).cells.length/\K (dH n (x.ev e) off) O
 | .kf s x i=>match x.ev e,i.ev e with
   | .sl xs,.v (.int _ i)=>0<=i/\i<xs.length/\(xs.getD i.toNat .top).cells.length=s/\K (.bW (xs.getD i.toNat .top) 0) O
   | .row n len,.v (.int _ i)=>match O[n]? with
     |some (.live _ s' xs)=>s'=s/\xs.length=len/\0<=i/\i<len/\K (.ptr n len i.toNat 0) O
     |_=>False
   |_,_=>False
 | .u7 m s x i=>match x.ev e,i.ev e with
   | .bW y f,.v (.int _ i)=>0<=i/\i<m/\K (.bW y (f+i.toNat*s)) O
   | .ptr n len j f,.v (.int _ i)=>match O[n]? with
     |some (.live _ _ xs)=>xs.length=len/\0<=i/\i<m/\K (.ptr n len j (f+i.toNat*s)) O
     |_=>False
   |_,_=>False
 | .eB x i=>match x.ev e,i.ev e with
   | .v (.string s),.v (.int _ i)=>0<=i/\i<s.size/\K (.v (.int .u8 (s.data.toList.getD i.toNat 0).toNat)) O
   |_,_=>False
 | .cL x lo hi=>match x.ev e with
   | .v (.string s)=>fq 0 e lo λ l=>fq s.size e hi λ h=>0<=l/\l<=h/\h<=s.size/\K (.v (.string (s.extract l.toNat h.toNat))) O
   |_=>False
 | .cw s x lo hi=>match x.ev e with
   | .sl xs=>fq 0 e lo λ l=>fq xs.length e hi λ h=>0<=l/\l<=h/\h<=xs.length/\(∀y∈xs,y.cells.length=s)/\K (.sl ((xs.take h.toNat).drop l.toNat)) O
   |_=>False
 | .abS t s bytes z x n=>match x.ev e,n.ev e with
   | .aQ,.v (.int .i64 k)=>0<k/\bytes*k<=2^48/\k<=maxLen/\K (.row O.length k.toNat) (O++ [.live t s (List.replicate k.toNat z)])
   |_,_=>False
 | .cut s x lo hi=>match x.ev e with
   | .aQ=>fq 0 e lo λ l=>fq 0 e hi λ h=>l=0/\h=0/\K .aQ O
   | .row n len=>match O[n]? with
     |some (.live t s' xs)=>xs.length=len/\s'=s/\fq 0 e lo λ l=>fq len e hi λ h=>l=0/\h=0/\K (.row O.length 0) (O.set n .dead++ [.live t s []])
     |_=>False
   |_=>False
 | .mk t s bytes z len cap=>match len.ev e,cap.ev e with
   | .v (.int .i64 n),.v (.int .i64 c)=>0<=n/\n<=c/\bytes*c<=2^48/\c<=maxLen/\K (.row O.length n.toNat) (O++ [.live t s (List.replicate n.toNat z)])
   |_,_=>False
 | .mkF _ _ bytes z len cap=>match len.ev e,cap.ev e with
   | .v (.int .i64 n),.v (.int .i64 c)=>0<=n/\n<=c/\bytes*c<=2^48/\c<=maxLen/\z.ag=true/\K (.sl (List.replicate n.toNat z)) O
   |_,_=>False
 | .xr k t s bytes z len cap=>match len.ev e,cap.ev e with
   | .v (.int .i64 n),.v (.int .i64 c)=>0<n/\n<=c/\bytes*c<=2^48/\c<=maxLen/\z.ag=true/\O[k]? =some (.nil t s)/\K (.row k n.toNat) (O.set k (.live t s (List.replicate n.toNat z)))
   |_,_=>False
 | .dI x=>match x.ev e with
   | .v (.string s)=>K (.v (.int .i64 s.size)) O
   |_=>False
 | .cz x=>match x.ev e with
   | .aQ=>K (.v (.int .i64 0)) O
   | .sl xs=>K (.v (.int .i64 xs.length)) O
   | .row n len=>match O[n]? with
     |some (.live _ _ xs)=>xs.length=len/\K (.v (.int .i64 len)) O
     |some (.nil _ _)=>len=0/\K (.v (.int .i64 0)) O
     |_=>False
   |_=>False
 | .app t s bytes x y=>qd O (y.ev e) λ ys=>(∀y∈ys,y.cells.length=s)/\gY O (x.ev e) t s bytes ys K
 | .ext x i=>match x.ev e with
   | .aK vs=>i<vs.length/\K (vs.getD i .top) O
   |_=>False
 | .ov x=>match x.ev e with
   | .bW y f=>K (.bW y f) O
   | .fn f aX=>K (.fn f aX) O
   | .ptr n len i f=>match O[n]? with
     |some (.live _ _ xs)=>xs.length=len/\K (.ptr n len i f) O
     |_=>False
   |_=>False
 | .tj f aX=>K (.fn f (aX.map (aE.ev e))) O
 | .call f args=>∃res O',js P f (args.map (aE.ev e)) O res O'/\K res O'
 | .eJ x args=>match x.ev e with
   | .fn f aX=>∃res O',js P f (args.map (aE.ev e)++aX) O res O'/\K res O'
   |_=>False
 | .lA f args=>∃res,AV.ad (args.map λ x=>jl O (x.ev e))=true/\aI P f (args.map λ x=>jl O (x.ev e)) res/\K res (yK O (args.map (aE.ev e)) res)
 | .jf x args=>match x.ev e with
   | .fn f aX=>∃res,AV.ad ((args.map λ x=>jl O (x.ev e))++aX)=true/\aI P f ((args.map λ x=>jl O (x.ev e))++aX) res/\K res (yK O (args.map (aE.ev e)) res)
   |_=>False
 | .jX f args=>∃res,AV.ad (args.map (aE.ev e))=true/\aI P f (args.map (aE.ev e)) res/\K res O
 | .kS f args=>∃res,res.flat=true/\AV.ad (args.map λ x=>jl O (x.ev e))=true/\aI P f (args.map λ x=>jl O (x.ev e)) res/\K res O
 | .fK _ _ _ f args=>∃res ob,AV.ad (args.map (aE.ev e))=true/\js P f (args.map (aE.ev e)) [] res [ob]/\K (res.bO λ n=>O.length+n) (O++ [ob.bO λ n=>O.length+n])
 | .ia _ f args=>∃res O',js P f (args.map (aE.ev e)) O res O'/\K res O'
 | .jd _ f args=>∃n a0 ob res ob',args.map (aE.ev e)=a0.map (AV.bO λ _=>n)/\a0.all AV.one=true/\(args.flatMap λ x=>refs (x.ev e))= [n]/\O[n]? =some ob/\ob.ad=true/\res.ag=true/\ob'.ad=true/\js P f a0 [ob] res [ob']/\K res (O.set n ob')
 | .zP=>K (.own O.length) (O++ [.cN (.mp [])])
 | .afh ok d z m k=>match m.ev e,k.ev e with
   | .own n,.v kv=>match O[n]? with
     |some (.cN (.mp es))=>d.ok kv=true/\d.all es=true/\K (match kX kv es 0 with
      |none=>if ok then .aK [z,.v (.bool false)]else z
      |some (_,v)=>if ok then .aK [v,.v (.bool true)]else v) O
     |_=>False
   |_,_=>False
 | .lT d m k v=>match m.ev e,k.ev e with
   | .own n,.v kv=>match O[n]? with
     |some (.cN (.mp es))=>d.ok kv=true/\d.all es=true/\K (.aK []) (O.set n (.cN (.mp (Go.Ab.lT kv (v.ev e) es))))
     |_=>False
   |_,_=>False
 | .ae1 ok z m k=>match m.ev e,k.ev e with
   | .own n,.ptr j 1 0 0=>match O[n]? with
     |some (.cN (.mp es))=>fH O j=true/\mR O es=true/\K (match kV j es 0 with
      |none=>if ok then .aK [z,.v (.bool false)]else z
      |some (_,v)=>if ok then .aK [v,.v (.bool true)]else v) O
     |_=>False
   |_,_=>False
 | .qp m k v=>match m.ev e,k.ev e with
   | .own n,.ptr j 1 0 0=>match O[n]? with
     |some (.cN (.mp es))=>fH O j=true/\mR O es=true/\K (.aK []) (O.set n (.cN (.mp (Go.Ab.qp j (v.ev e) es))))
     |_=>False
   |_,_=>False
 | .uj x=>match x.ev e with
   | .v (.string s)=>K (.own O.length) (O++ [.cN (.it s 0)])
   |_=>False
 | .uq x=>match x.ev e with
   | .own n=>match O[n]? with
     |some (.cN (.it s pos))=>(pos<s.size->K (.aK [.v (.bool true),.v (.int .i64 pos),.v (.int .i32 (Utf8.decode s pos).1)]) (O.set n (.cN (.it s (pos+(Utf8.decode s pos).2)))))/\(¬pos<s.size->K (.aK [.v (.bool false)]) O)
     |_=>False
   |_=>False
 | .s2b t x=>match x.ev e with
   | .v (.string s)=>s.size<=maxLen/\K (.row O.length s.size) (O++ [.live t 1 (s.data.toList.map λ c=> .v (.int .u8 c.toNat))])
   |_=>False
 | .xu t x=>match x.ev e with
   | .row n len=>match O[n]? with
     |some (.live t' s xs)=>t'=t/\s=1/\xs.length=len/\K (.row n len) O
     |_=>False
   |_=>False
 | .yU neg x=>match x.ev e with
   | .v (.pointer none)=>K (.v (.bool (neg !=true))) O
   | .ptr n len _ _=>match O[n]? with
     |some (.live _ _ xs)=>xs.length=len/\K (.v (.bool (neg !=false))) O
     |_=>False
   |_=>False
 | .peq neg x y=>match x.ev e,y.ev e with
   | .ptr n 1 0 0,.ptr m 1 0 0=>fH O n=true/\fH O m=true/\K (.v (.bool (neg !=decide (n=m)))) O
   |_,_=>False
 | .pJ rd f args=>∃res ob,(∀O':List ae,O'.length=O.length->(∀n∈rd,O'[n]? =O[n]?)->js P f (args.map (aE.ev e)) O' res (O'++ [ob]))/\K res (O++ [ob])
 | .pK rd f args=>∃res,(∀O':List ae,(∀n∈rd,O'[n]? =O[n]?)->js P f (args.map (aE.ev e)) O' res O')/\K res O
 | .n8 kp f args=>∃res O',js P f (args.map (aE.ev e)) O res O'/\(∀n∈kp,O'[n]? =O[n]?)/\K res O'
 | .ik x args=>match x.ev e with
   | .fn f aX=>∃res,AV.ad (args.map (aE.ev e)++aX)=true/\aI P f (args.map (aE.ev e)++aX) res/\K res O
   |_=>False
def apG:Value->Option AV
 | .bool b=>some (.v (.bool b))
 | .int k n=>some (.v (.int k n))
 | .string s=>some (.v (.string s))
 | .pointer none=>some (.v (.pointer none))
 | .map none=>some (.v (.map none))
 | .nilFunc=>some (.v .nilFunc)
 | .nilIface=>some (.v .nilIface)
 | .slice none 0 0=>some .aQ
 |_=>none
def ajf:Value->Option AV
 | .agg cs=>(cs.toList.mapM apG).map .agg
 | .func (.func f) first captured=>if first.size=0/\captured.size=0 then some (.fn f [])else none
 |x=>apG x
def bC:Operand->Option aE
 | .tmp t=>some (.t t)
 | .const v=>(ajf v).map .c
 | .func f=>some (.c (.fn f []))
 | .global _=>none
def amz(l:Array Operand):Option (List aE):=l.toList.mapM bC
def ld(P:Program)(t:TypeId):Option (Nat×Nat×AV):=do
 let i ←P.info? t
 let z ←i.zero
 let a ←ajf z
 if a.cells.length=i.size/\0<i.size/\z.cells.size=i.size/\a.storable=true then some (i.size,i.bytes,a)else none
def yE(d:TypeDesc):Bool:=
 match d with
 | .struct _| .array _ _=>true
 |_=>false
def tZ(P:Program)(t:TypeId):Option (Option Nat):=do
 let d ←P.underlying t
 let i ←P.info? t
 if yE d=true then(if 0<i.size then some (some i.size)else none)else some none
def nn(P:Program)(t:TypeId):Option TypeId:=
 match P.underlying t with
 |some (.slice e)=>some e
 |_=>none
def iS:BinOp->Bool
 | .neq=>true
 |_=>false
def ac9(P:Program)(op:BinOp)(t:TypeId):Bool:=
 match op,P.underlying t with
 | .eql,some .bool=>true
 | .neq,some .bool=>true
 |_,_=>false
def kZ(op:BinOp):Bool:=
 match op with
 | .eql| .neq=>true
 |_=>false
def aoD(P:Program)(t:TypeId):Bool:=
 match P.underlying t with
 |some (.slice _)=>true
 |_=>false
def agM(P:Program)(t:TypeId):Bool:=
 match P.underlying t with
 |some (.pointer _)=>true
 |_=>false
def uJ(P:Program)(t:TypeId):Bool:=
 match P.underlying t with
 |some (.pointer el)=>match P.info? el with
  |some i=>decide (0<i.size)
  |none=>false
 |_=>false
def agL(P:Program)(op:BinOp)(t:TypeId):Bool:=kZ op&&uJ P t
def ala(P:Program)(t:TypeId):Bool:=
 match P.underlying t with
 |some (.interface _)=>true
 |_=>false
def y3(P:Program)(t:TypeId):Bool:=
 match P.underlying t with
 |some (.int .u8)=>true
 |_=>false
def isInt(P:Program)(t:TypeId):Bool:=
 match P.underlying t with
 |some (.int _)=>true
 |_=>false
def bR(P:Program)(type:TypeId)(o:Op):Option dZ:=
 match o with
 | .move x| .assign x=>do some (.bt (←bC x))
 | .pick c a b=>do some (.pick (←bC c) (←bC a) (←bC b))
 | .alloc t=>do let(s,_,z) ←ld P t;some (.alloc t s z)
 | .box t x=>do let i ←P.info? t;if 0<i.size then some (.box t i.size (←bC x))else none
 | .build t parts=>
   match P.underlying t with
   |some (.struct fs)=>do
    let(_,_,z) ←ld P t
    let _ ←fs.toList.mapM (λ f=>(P.info? f.type).map λ i=>(f.offset,i.size))
    let ps ←parts.toList.mapM λ (i,x)=>do let f ←fs[i]?;let n ←P.info? f.type;some (f.offset,n.size,←bC x)
    some (.build z.cells ps)
   |some (.array _ el)=>if parts.isEmpty then do
     let(_,_,z) ←ld P t
     let _ ←P.info? el
     some (.build z.cells [])
    else none
   |_=>none
 | .buildSlice t len parts=>do
   let e ←nn P t
   let(s,_,z) ←ld P e
   let ps ←parts.toList.mapM λ (i,x)=>do some (i,←bC x)
   if len*s<=2^24 then some (.buildSlice e s len z ps)else none
 | .load t x=>do some (.load (←tZ P t) (←bC x))
 | .store t x y=>do some (.store (←P.info? t).size (←bC x) (←bC y))
 | .nilCheck x=>do some (.ov (←bC x))
 | .binOp op t x y _=>if ac9 P op t=true then do some (.beq (iS op) (←bC x) (←bC y))else if agL P op t=true then do some (.peq (iS op) (←bC x) (←bC y))else do some (.bin op (←bC x) (←bC y))
 | .unOp op _ x=>do some (.un op (←bC x))
 | .convert src dst x=>match P.underlying src,P.underlying dst with
   |some (.int _),some (.int k)=>do some (.jo k (←bC x))
   |some .string,some (.slice e)=>if y3 P e=true then do some (.s2b e (←bC x))else none
   |some (.slice _),some (.slice e)=>if y3 P e=true/\src=dst then do some (.xu e (←bC x))else none
   |_,_=>none
 | .fieldAddr t x f=>match P.underlying t with
   |some (.struct fs)=>do
    let g ←fs[f]?
    if 0<(←P.info? g.type).size then some (.dz g.offset (←bC x))else none
   |_=>none
 | .field t x f=>match P.underlying t with
   |some (.struct fs)=>do
    let g ←fs[f]?
    some (.yg g.offset (←tZ P g.type) (←bC x))
   |_=>none
 | .indexAddr t x i=>match P.underlying t with
   |some (.array m el)=>do some (.u7 m (←P.info? el).size (←bC x) (←bC i))
   |_=>do
    let e ←nn P t
    some (.kf (←P.info? e).size (←bC x) (←bC i))
 | .index t x i=>match P.underlying t with
   |some .string=>do some (.eB (←bC x) (←bC i))
   |_=>none
 | .slice t x lo hi mx=>
   if mx.isSome then none else
   match P.underlying t with
   |some .string=>do some (.cL (←bC x) (←lo.mapM bC) (←hi.mapM bC))
   |some (.slice e)=>do some (.cw (←P.info? e).size (←bC x) (←lo.mapM bC) (←hi.mapM bC))
   |_=>none
 | .makeSlice t l c=>do
   let e ←nn P t
   let(s,b,z) ←ld P e
   some (.mk e s b z (←bC l) (←bC c))
 | .extract x i=>do some (.ext (←bC x) i)
 | .makeMap _ none=>some .zP
 | .lookup t m k ok=>match P.underlying t with
   |some (.map kt et)=>if uJ P kt=true then do
     let(_,_,z) ←ld P et
     some (.ae1 ok z (←bC m) (←bC k))
    else do
     let d ←KD.of (←P.underlying kt)
     let(_,_,z) ←ld P et
     some (.afh ok d z (←bC m) (←bC k))
   |_=>none
 | .mapUpdate t m k v=>match P.underlying t with
   |some (.map kt _)=>if uJ P kt=true then do some (.qp (←bC m) (←bC k) (←bC v))else do
    let d ←KD.of (←P.underlying kt)
    some (.lT d (←bC m) (←bC k) (←bC v))
   |_=>none
 | .insert t m k v=>match P.underlying t with
   |some (.map kt _)=>if uJ P kt=true then do some (.qp (←bC m) (←bC k) (←bC v))else do
    let d ←KD.of (←P.underlying kt)
    some (.lT d (←bC m) (←bC k) (←bC v))
   |_=>none
 | .range t x=>match P.underlying t with
   |some .string=>do some (.uj (←bC x))
   |_=>none
 | .next x true=>do some (.uq (←bC x))
 | .makeFunc (.func f) first aX=>if first.isEmpty then do some (.tj f (←amz aX))else none
 |_=>none
def dZ.xM:dZ->Bool
 | .call _ _| .eJ _ _| .lA _ _| .jf _ _| .jX _ _| .ik _ _| .kS _ _| .fK _ _ _ _ _| .ia _ _ _| .jd _ _ _| .pJ _ _ _| .pK _ _ _| .n8 _ _ _=>true
 |_=>false
def u6(P:Program)(c:Call):Option dZ:=
 match c.callee with
 | .value f=>match bC f,amz c.args with
   |some (.c (.fn f [])),some args=>some (.call f args)
   |some x,some args=>some (.eJ x args)
   |_,_=>none
 | .builtin .len=>match c.argTypes.toList,c.args.toList with
   | [t],[x]=>match P.underlying t with
     |some .string=>(bC x).map .dI
     |some (.slice _)=>(bC x).map .cz
     |_=>none
   |_,_=>none
 | .builtin .append=>match c.argTypes.toList,c.args.toList with
   | [t,u],[x,y]=>if t=u then do
       let e ←nn P t
       let(s,b,_) ←ld P e
       some (.app e s b (←bC x) (←bC y))else none
   |_,_=>none
 |_=>none
def vK(P:Program)(type:TypeId)(o:Op):Option dZ:=
 match o with
 | .call c=>u6 P c
 |o=>(bR P type o).bind λ a=>if a.xM=true then none else some a
def isStr(P:Program)(t:TypeId):Bool:=
 match P.underlying t with
 |some .string=>true
 |_=>false
def aiV(P:Program)(o:Op):Option dZ:=
 match o with
 | .binOp op t x (.const (.slice none 0 0)) _=>if kZ op=true/\aoD P t=true then do some (.pu (.tt (iS op)) [←bC x])else none
 | .binOp op t x (.const (.pointer none)) _=>if kZ op=true/\agM P t=true then do some (.pu (.mT (iS op)) [←bC x])else none
 | .binOp op t x (.const .nilIface) _=>if kZ op=true/\ala P t=true then do some (.pu (.qG (iS op)) [←bC x])else none
 | .convert s d x=>do
   let e ←nn P s
   if y3 P e=true/\isStr P d=true then some (.pu .b2s [←bC x])else none
 | .call c=>
   match c.callee,c.argTypes.toList,c.args.toList with
   | .builtin .append,[t,u],[x,y]=>if isStr P u=true then do
     let e ←nn P t
     let(s,b,_) ←ld P e
     if y3 P e=true then some (.jN e s b (←bC x) (←bC y))else none
     else if isInt P u=true then do
      let e ←nn P t
      let(s,b,z) ←ld P e
      some (.abS e s b z (←bC x) (←bC y))
     else none
   | .builtin .cap,[t],[x]=>if aoD P t=true then do some (.pu .amt [←bC x])else none
   | .builtin .min,[_,_],[x,y]=>do some (.pu .min [←bC x,←bC y])
   | .builtin .max,[_,_],[x,y]=>do some (.pu .max [←bC x,←bC y])
   |_,_,_=>none
 |_=>none
def aiW(P:Program)(type:TypeId)(o:Op):dZ:=
 match aiV P o with
 |some a=>a
 |none=>(vK P type o).getD .stuck
def cOp(P:Program)(type:TypeId)(o:Op):Option dZ:=some (aiW P type o)
end Go.Ab
namespace Go.Ab
theorem add_lit(b o j:Nat):(⟨b,o,none⟩:Addr).add j=⟨b,o+j,none⟩:=by
 unfold Addr.add;split<;>simp_all
section
variable {I:da} {L:Nat->Loc} {O:List ae}
theorem yG{v:Value}{a:AV}(h:apG v=some a):R I L O a v:=by
 unfold apG at h
 split at h<;>cases h<;>first|exact .v _ rfl|exact .aQ
theorem mapM_some{α β:Type}{f:α->Option β}:∀{l:List α} {r:List β},l.mapM f=some r->r.length=l.length/\∀(i:Nat) (x:α) (y:β),l[i]? =some x->r[i]? =some y->f x=some y
 | [],r,h=>by simp at h;subst h;simp
 |a::l,r,h=>by
  simp only[mapM_cons,bind_eq_bind,bind_eq_some_iff,pure_def,Option.some.injEq]at h;obtain⟨b,hb,bs,hbs,rfl⟩:=h;obtain⟨h1,h2⟩:=mapM_some hbs;refine⟨by simp[h1],λ i x y hx hy=> ?_⟩;cases i with
  |zero=>simp at hx hy;subst hx;subst hy;exact hb
  |succ i=>simp at hx hy;exact h2 i x y hx hy
theorem eK{v:Value}{a:AV}(h:ajf v=some a):R I L O a v:=by
 unfold ajf at h
 split at h
 ·rename_i cs;simp only[map_eq_some_iff]at h;obtain⟨as,has,rfl⟩:=h;obtain⟨h1,h2⟩:=mapM_some has;refine .agg _ _ (by simpa using h1) λ i c x hc hx=>yG (h2 i x c (by simpa using hx) hc)
 ·rename_i f first captured
  split at h
  ·rename_i hh;cases h;obtain rfl:first= #[]:=Array.eq_empty_of_size_eq_zero hh.1
   exact .fn _ _ _ (by simp[hh.2]) (by simp)
  ·cases h
 ·exact yG h
theorem an{x:Operand}{ax:aE}(h:bC x=some ax){e:Env}{a:Act}(he:∀t,R I L O (e t) (a.tmps.getD t undef)):R I L O (ax.ev e) (a.eval x):=by
 unfold bC at h
 split at h
 ·cases h;exact he _
 ·simp only[map_eq_some_iff]at h;obtain⟨c,hc,rfl⟩:=h;exact eK hc
 ·cases h;exact .fn _ _ _ rfl (by simp)
 ·cases h
theorem R.cI{a:AV}{x:Value}(h:R I L O a x)(hc:a.cI=true):x.oneCell'=true:=by
 cases h<;>first|rfl|(simp[AV.cI]at hc;done)|assumption|exact fT.val_one _ _
theorem Value.aiP{x:Value}(h:x.oneCell'=true):x.cells= #[x]:=by
 cases x<;>first|rfl|(simp[Value.oneCell']at h;done)
theorem AV.gk{a:AV}(h:a.cI=true):a.cells= [a]:=by
 cases a<;>first|rfl|(simp[AV.cI]at h;done)
theorem AV.uc{a:AV}(h:a.isAgg=true):a= .agg a.cells:=by
 cases a<;>first|rfl|(simp[AV.isAgg]at h;done)
theorem R.cells{a:AV}{x:Value}(h:R I L O a x)(hc:(a.cI||a.isAgg)=true):
  a.cells.length=x.cells.size/\∀(j:Nat) c,a.cells[j]? =some c->∃y,x.cells[j]? =some y/\R I L O c y:=by
 by_cases h1:a.cI=true
 ·have h2:=h.cI h1;rw[AV.gk h1,Value.aiP h2];refine⟨rfl,λ j c hj=> ?_⟩;cases j with
  |zero=>simp at hj;subst hj;exact⟨x,rfl,h⟩
  |succ j=>simp at hj
 ·have h3:a.isAgg=true:=by simpa [h1]using hc
  rw[AV.uc h3]at h;cases h with
  |agg _ vs hl hr=>
   refine⟨hl,λ j c hj=> ?_⟩;have au:j<vs.size:=by rw[←hl];exact(List.getElem?_eq_some_iff.1 hj).1
   have hy:vs[j]? =some vs[j]:=by simp[au]
   exact⟨vs[j],hy,hr j c _ hj hy⟩
theorem kP{a:AV}(h:a.storable=true):(a.cI||a.isAgg)=true:=by
 cases a<;>first|rfl|(simp[AV.storable,AV.cells,AV.cI]at h;done)
theorem R.oQ{a:AV}{x:Value}(h:R I L O a x)(hc:a.storable=true):
  a.cells.length=x.cells.size/\∀(j:Nat) c,a.cells[j]? =some c->∃y,x.cells[j]? =some y/\y.oneCell'=true/\R I L O c y:=by
 obtain⟨h1,h2⟩:=h.cells (kP hc);refine⟨h1,λ j c hj=> ?_⟩;obtain⟨y,hy,hr⟩:=h2 j c hj;exact⟨y,hy,hr.cI (List.all_eq_true.1 hc c (mem_of_getElem? hj)),hr⟩
theorem R.asR{a:AV}{x:Value}(h:R I L O a x)(hc:a.storable=true):∀v∈x.cells.toList,v.oneCell'=true:=by
 obtain⟨h1,h2⟩:=h.oQ hc;intro v hv;obtain⟨j,hj⟩:=List.getElem?_of_mem hv;have hj':x.cells[j]? =some v:=by simpa using hj
 have au:j<a.cells.length:=by rw[h1];exact(Array.getElem?_eq_some_iff.1 hj').1
 obtain⟨y,hy,ho,_⟩:=h2 j a.cells[j] (by simp[au]);rw[hj']at hy;cases hy;exact ho
end
theorem R.e9{I:da}{L:Nat->Loc}{O:List ae}{n len e s:Nat}{xs:List AV}{x:Value}(h:R I L O (.row n len) x)(hn:O[n]? =some (.live e s xs))(hl:xs.length=len):
  x= .slice (some ⟨(L n).bc,0,none⟩) len (L n).cap:=by
 cases h with
 |bV=>rfl
 |eb _ _ _ mw=>rw[hn]at mw;cases mw
 |dN _ _ _ _ _ hd=>have:=hd _ _ _ hn;omega
theorem R.lz{I:da}{L:Nat->Loc}{O:List ae}{n len e s:Nat}{x:Value}(h:R I L O (.row n len) x)(hn:O[n]? =some (.nil e s)):x= .slice none 0 0/\len=0:=by
 cases h with
 |bV _ _ _ _ _ mw=>rw[hn]at mw;cases mw
 |eb=>exact⟨rfl,rfl⟩
 |dN _ _ _ _ hd=>exact(hd _ _ hn).elim
theorem R.gP{I:da}{L:Nat->Loc}{O:List ae}{n len i f e s:Nat}{xs:List AV}{x:Value}(h:R I L O (.ptr n len i f) x)(hn:O[n]? =some (.live e s xs))(hl:xs.length=len):
  x= .pointer (some ⟨(L n).bc,i*s+f,none⟩):=by
 cases h with
 |di _ _ _ _ _ _ _ mw=>rw[hn]at mw;cases mw;rfl
 |fa _ _ _ _ _ _ _ hd=>have:=hd _ _ _ hn;omega
theorem oZ{P:Program}{t:TypeId}{d:TypeDesc}(hd:P.underlying t=some d)(w:World):
  (isAgg t).run P w= .ok (yE d) w:=by
 cases d<;>simp[isAgg,run_underlying hd,yE]
def rN(n:Option Nat)(bB:Nat->Value):Value:=
 match n with
 |none=>bB 0
 |some m=> .agg ((List.range m).map bB).toArray
theorem ql{P:Program}{t:TypeId}{n:Option Nat}(hn:tZ P t=some n)(b o:Nat)(bB:Nat->Value)(w:World)
  (hc:∀j,j<n.getD 1->w.cell? ⟨b,o+j,none⟩=some (bB j)):
  (Instr.loadAt t (.pointer (some ⟨b,o,none⟩))).run P w= .ok (rN n bB) w:=by
 unfold tZ at hn;simp only[bind_eq_bind,bind_eq_some_iff]at hn;obtain⟨d,hd,i,hi,hn⟩:=hn;cases n with
 |none=>
  have hf:yE d=false:=by
   by_cases h:yE d=true
   ·rw[if_pos h]at hn;split at hn<;>simp at hn
   ·simpa using h
  have h0:=hc 0 (by simp);simp only[add_zero]at h0;simp[Instr.loadAt,Instr.sureAddr,loadVar,oZ hd,hf,run_load,h0,rN]
 |some m=>
  have hf:yE d=true/\i.size=m:=by
   by_cases h:yE d=true
   ·rw[if_pos h]at hn;split at hn<;>simp at hn;exact⟨h,hn⟩
   ·rw[if_neg h]at hn;simp at hn
  have hl:=run_loadCells (P:=P) w ⟨b,o,none⟩ m bB (λ j hj=>by rw[add_lit];exact hc j (by simpa using hj));simp[Instr.loadAt,Instr.sureAddr,loadVar,oZ hd,hf.1,sizeOf,typeInfo,hi,hf.2,hl,rN]
theorem lF{I:da}{L:Nat->Loc}{O:List ae}{x:AV}{n:Option Nat}{f:Nat}{bB:Nat->Value}(hf:f+n.getD 1<=x.cells.length)
  (hr:∀(j:Nat) c,x.cells[f+j]? =some c->j<n.getD 1->R I L O c (bB j)):
  R I L O (dH n x f) (rN n bB):=by
 cases n with
 |none=>
  simp only[Option.getD_none]at hf;have h1:x.cells[f]? =some x.cells[f]:=by simp[show f<x.cells.length by omega]
  have:=hr 0 _ (by rw[add_zero];exact h1) (by simp);simpa [dH,List.getD,h1,rN]using this
 |some m=>
  simp only[Option.getD_some]at hf hr;simp only[dH,rN]
  split
  ·rename_i hh;obtain⟨rfl,ha,hl⟩:=hh;rw[AV.uc ha];refine .agg _ _ (by simp[hl]) λ i c v hc hv=> ?_
   have au:i<m:=by rw[←hl];exact(List.getElem?_eq_some_iff.1 hc).1
   simp[au]at hv;subst hv;exact hr i c (by simpa using hc) au
  ·refine .agg _ _ (by simp;omega) λ i c v hc hv=> ?_
   have au:i<m:=by
    have:=(List.getElem?_eq_some_iff.1 hc).1;simp at this;omega
   simp[au]at hv;subst hv;rw[getElem?_take,if_pos au,getElem?_drop]at hc;exact hr i c hc au
end Go.Ab
namespace Go.Ab
theorem dV{w:World}{b o:Nat}{c:Array Value}{e:TypeId}{f:Nat×Nat}(h:w.heap[b]? =some (.cells c e f)):w.cell? ⟨b,o,none⟩=c[o]? :=by
 simp[World.cell?,h]
theorem aaA.congr{I I':da}{L L':Nat->Loc}{O O':List ae}{w w':World}{l:Loc}{e s:Nat}{xs:List AV}(h:aaA I L O w l e s xs)
  (hb:w'.heap[l.bc]? =w.heap[l.bc]?) (hr:∀a x,R I L O a x->R I' L' O' a x):aaA I' L' O' w' l e s xs:=by
 obtain⟨c,h1,h2,h3,h4,h5,h6⟩:=h;refine⟨c,by rw[hb];exact h1,h2,h3,h4,h5,λ i x hx=>⟨(h6 i x hx).1,λ j a ha=> ?_⟩⟩;obtain⟨y,hy,ho,lI⟩:=(h6 i x hx).2 j a ha;exact⟨y,hy,ho,hr _ _ lI⟩
theorem Good.refl{I:da}{L:Nat->Loc}{O:List ae}{w:World}(h:Inv I L O w):Good I L O w I L O w:=
 ⟨h,.refl _ _ _,.refl _ _,λ _ h=> .inl h,λ _ _ _ h=> .inl h⟩
theorem Good.trans{I I' I'':da}{L L' L'':Nat->Loc}{O O' pC:List ae}{w w' w'':World}(h:Good I L O w I' L' O' w')(k:Good I' L' O' w' I'' L'' pC w''):Good I L O w I'' L'' pC w'':=
 ⟨k.inv,h.ext.trans k.ext,h.mE.trans k.mE h.lb,λ b hb=>by
   rcases k.lb b hb with h1|h1
   ·exact h.lb b h1
   ·exact .inr (le_trans h.mE.size h1),λ b o x hx=>by
   rcases k.iM b o x hx with h1|h1|h1
   ·exact h.iM b o x h1
   ·exact .inr (h.lb b h1)
   ·exact .inr (.inr (le_trans h.mE.size h1))⟩
theorem Good.drawn{I:da}{L:Nat->Loc}{O:List ae}{w:World}(h:Inv I L O w)(k:Nat):Good I L O w I L O {w with drawn:=k}:=
 ⟨⟨h.iy,h.obj,h.sep,h.dT,h.fix,h.bc,h.ow.aU λ _ _ _=>rfl,h.gh.step (λ _ _ h=>⟨h,rfl⟩) (λ _ _ h=>h) λ _ _=>rfl⟩,.refl _ _ _,⟨rfl,rfl,rfl,le_refl _,λ _ _ _=>rfl⟩,λ _ h=> .inl h,λ _ _ _ h=> .inl h⟩
theorem Inv.put{I:da}{L:Nat->Loc}{O O':List ae}{w w':World}{n:Nat}{l:Loc}{e s:Nat}{xs:List AV}(h:Inv I L O w)
  (hO:∀k:Nat,O'[k]? =if k=n then some (.live e s xs)else O[k]?) (hlen:O.length<=O'.length)
  (hw:∀b,b<w.heap.size->b≠l.bc->w'.heap[b]? =w.heap[b]?)
  (hos:w'.os=w.os) (alj:w'.tape=w.tape) (arR:w'.output=w.output) (aln:w.heap.size<=w'.heap.size)
  (hl:w.heap.size<=l.bc∨∃e s xs,O[n]? =some (.live e s xs)/\(L n).bc=l.bc)
  (uM:aaA I L O w' l e s xs)
  (hold:n<O.length->(∃ys,O[n]? =some (.live e s ys)/\ys.length<=xs.length/\(ys.length=xs.length->l=L n))∨(O[n]? =some (.nil e s)/\xs≠[])):
  Good I L O w I (λ k=>if k=n then l else L k) O' w':=by
 have dp:Ext I L O I (λ k=>if k=n then l else L k) O':=by
  refine⟨λ _ _ _ h=>h,hlen,λ k hk e' s' hZ hx=> ?_,λ k hk e' s' hx=> ?_,λ k hk a hx=> ?_,λ k hk a hx=> ?_⟩;rotate_left 2
  ·rw[hO]at hx;by_cases eD:k=n
   ·rw[if_pos eD]at hx;cases hx
   ·rw[if_neg eD]at hx;exact⟨⟨a,hx⟩,by simp only[if_neg eD]⟩
  ·rw[hO]at hx;by_cases eD:k=n
   ·rw[if_pos eD]at hx;cases hx
   ·rw[if_neg eD]at hx;exact⟨⟨a,hx,rfl⟩,by simp only[if_neg eD]⟩
  ·rw[hO]at hx;by_cases eD:k=n
   ·subst eD;rw[if_pos rfl]at hx;cases hx;rcases hold hk with⟨ys,h1,h2,h3⟩|h1
    ·exact .inl ⟨ys,h1,h2,λ he=>by simp[h3 he]⟩
    ·exact .inr h1
   ·rw[if_neg eD]at hx;exact .inl ⟨hZ,hx,le_refl _,λ _=>by simp[eD]⟩
  ·rw[hO]at hx;by_cases eD:k=n
   ·rw[if_pos eD]at hx;cases hx
   ·rwa [if_neg eD]at hx
 have au:∀{b o x},I b o=some x->b<w.heap.size/\b≠l.bc:=by
  intro b o x hx;have hb:=gm (h.iy b o x hx);refine⟨hb,λ he=> ?_⟩;rcases hl with h1|⟨e',s',hZ,h1,h2⟩
  ·omega
  ·have:=h.dT n e' s' hZ o h1;rw[h2,←he,hx]at this;cases this
 have k8:∀{k:Nat} {e' s' hZ},O[k]? =some (.live e' s' hZ)->(L k).bc<w.heap.size:=by
  intro k e' s' hZ hk;obtain⟨c,⟨j5,hc,dn⟩,_⟩:=h.obj k e' s' hZ hk;exact(Array.getElem?_eq_some_iff.1 hc).1
 have cr:∀{k:Nat} {e' s' hZ},O[k]? =some (.live e' s' hZ)->k≠n->(L k).bc≠l.bc:=by
  intro k e' s' hZ hk eD he;rcases hl with h1|⟨e'',s'',ats,h1,h2⟩
  ·have:=k8 hk;omega
  ·exact eD (h.sep k n _ _ _ _ _ _ hk h1 (he.trans h2.symm))
 have hbk:∀b,b<w.heap.size->¬LB L O b->w'.heap[b]? =w.heap[b]? :=λ b hb hn=>by
  refine hw b hb λ he=> ?_
  rcases hl with h1|⟨e',s',hZ,h1,h2⟩
  ·omega
  ·exact hn (.inl ⟨n,e',s',hZ,h1,h2.trans he.symm⟩)
 have how:Own I (λ k=>if k=n then l else L k) O' w':=by
  refine h.ow.step (λ k a hk=> ?_) (λ b o v hv=> .inl ⟨o,v,hv⟩) (λ k e' s' hZ hk=> ?_) λ b hb hn=> ?_
  ·rw[hO]at hk;by_cases eD:k=n
   ·rw[if_pos eD]at hk;cases hk
   ·rw[if_neg eD]at hk;exact⟨hk,if_neg eD⟩
  ·by_cases eD:k=n
   ·subst eD;simp only[if_true];rcases hl with h1|⟨e',s',hZ,h1,h2⟩
    ·exact .inr h1
    ·exact .inl ⟨k,e',s',hZ,h1,h2⟩
   ·rw[hO,if_neg eD]at hk;simp only[if_neg eD];exact .inl ⟨k,e',s',hZ,hk,rfl⟩
  ·refine hw b hb λ he=> ?_
   rcases hl with h1|⟨e',s',hZ,h1,h2⟩
   ·omega
   ·exact hn ⟨n,e',s',hZ,h1,h2.trans he.symm⟩
 have hgh:Gh I (λ k=>if k=n then l else L k) O' w':=by
  refine h.gh.step (λ k g hk=> ?_) (λ a x hr=>hr.mono dp) λ b hb=> ?_
  ·rw[hO]at hk;by_cases eD:k=n
   ·rw[if_pos eD]at hk;cases hk
   ·rw[if_neg eD]at hk;exact⟨hk,by simp only[if_neg eD]⟩
  ·refine hw b hb.1 λ he=> ?_
   rcases hl with h1|⟨e',s',hZ,h1,h2⟩
   ·have:=hb.1;omega
   ·obtain⟨c,⟨j5,hc,dn⟩,_⟩:=h.obj n e' s' hZ h1;rw[h2,←he]at hc;exact hb.2 _ _ _ hc
 refine⟨⟨?_,?_,?_,?_,h.fix,h.lM hbk (λ _ _ _ h=>h),how,hgh⟩,dp,⟨hos,alj,arR,aln,?_⟩,?_,λ _ _ _ h=> .inl h⟩
 ·intro b o x hx;obtain⟨h1,h2⟩:=au hx;rw[←h.iy b o x hx];exact World.cell?_of_block (a:=⟨b,o,none⟩) (hw b h1 h2)
 ·intro k e' s' hZ hk;rw[hO]at hk;by_cases eD:k=n
  ·subst eD;rw[if_pos rfl]at hk;cases hk;simp only[if_true];exact uM.congr rfl λ a x=>R.mono dp
  ·rw[if_neg eD]at hk;simp only[if_neg eD];exact(h.obj k e' s' hZ hk).congr (hw _ (k8 hk) (cr hk eD)) λ a x=>R.mono dp
 ·intro k m e1 s1 xs1 e2 s2 xs2 hk hm hb;rw[hO]at hk hm;by_cases eD:k=n<;>by_cases l6:m=n
  ·omega
  ·subst eD;simp only[if_true,if_neg l6]at hb hm;exact(cr hm l6 hb.symm).elim
  ·subst l6;simp only[if_true,if_neg eD]at hb hk;exact(cr hk eD hb).elim
  ·simp only[if_neg eD,if_neg l6]at hb hk hm;exact h.sep k m _ _ _ _ _ _ hk hm hb
 ·intro k e1 s1 xs1 o hk;rw[hO]at hk;by_cases eD:k=n
  ·subst eD;simp only[if_true];cases hx:I l.bc o with
   |none=>rfl
   |some x=>exact((au hx).2 rfl).elim
  ·simp only[if_neg eD]at hk⊢;exact h.dT k _ _ _ o hk
 ·intro b hb hn;refine hw b hb λ he=> ?_
  rcases hl with h1|⟨e',s',hZ,h1,h2⟩
  ·omega
  ·exact hn (.inl ⟨n,e',s',hZ,h1,h2.trans he.symm⟩)
 ·rintro b (⟨k,e',s',hZ,hk,hb⟩|⟨k,a,o,v,hk,hb⟩|⟨k,g,hk,hb⟩)
  rotate_right
  ·rw[hO]at hk;by_cases eD:k=n
   ·rw[if_pos eD]at hk;cases hk
   ·rw[if_neg eD]at hk;simp only[if_neg eD]at hb;exact .inl (.inr (.inr ⟨k,g,hk,hb⟩))
  rotate_left
  ·rw[hO]at hk;by_cases eD:k=n
   ·rw[if_pos eD]at hk;cases hk
   ·rw[if_neg eD]at hk;simp only[if_neg eD]at hb;exact .inl (.inr (.inl ⟨k,a,o,v,hk,hb⟩))
  rw[hO]at hk;by_cases eD:k=n
  ·subst eD;simp only[if_true]at hb;subst hb;rcases hl with h1|⟨e',s',hZ,h1,h2⟩
   ·exact .inr h1
   ·exact .inl (.inl ⟨k,e',s',hZ,h1,h2⟩)
  ·simp only[if_neg eD]at hk hb;exact .inl (.inl ⟨k,e',s',hZ,hk,hb⟩)
theorem Inv.auv{I:da}{L:Nat->Loc}{O:List ae}{w:World}(h:Inv I L O w){e s:Nat}{xs:List AV}(c:Array Value)(cap:Nat){m:Nat×Nat}(hmk:Mk m c.size s)
  (hc:c.size=cap*s) (hx:xs.length<=cap) (hm:cap<=maxLen) (hs:0<s)
  (hr:∀(i:Nat) x,xs[i]? =some x->x.cells.length=s/\∀(j:Nat) a,x.cells[j]? =some a->∃y,c[i*s+j]? =some y/\y.oneCell'=true/\R I L O a y):
  Good I L O w I (λ k=>if k=O.length then Loc.at w.heap.size (cap)else L k) (O++ [.live e s xs]) (w.alloc (.cells c e m)):=by
 refine h.put (n:=O.length) (l:=Loc.at w.heap.size (cap)) (e:=e) (s:=s) (xs:=xs) (w':=w.alloc (.cells c e m)) ?_ (by simp) ?_ rfl rfl rfl (by simp) (.inl (le_refl _)) ?_ (by omega)
 ·intro k;by_cases hk:k=O.length
  ·subst hk;simp
  ·rw[if_neg hk,List.getElem?_append]
   split
   ·rfl
   ·rw[getElem?_eq_none (by simp;omega),getElem?_eq_none (by omega)]
 ·intro b hb _;exact heap_alloc_old w _ b hb
 ·exact⟨c,⟨_,heap_alloc_new w _,hmk⟩,hc,hx,hm,hs,hr⟩
theorem Inv.new{I:da}{L:Nat->Loc}{O:List ae}{w:World}(h:Inv I L O w){e s:Nat}{xs:List AV}(c:Array Value)(cap:Nat)
 (hc:c.size=cap*s) (hx:xs.length<=cap) (hm:cap<=maxLen) (hs:0<s)
 (hr:∀(i:Nat) x,xs[i]? =some x->x.cells.length=s/\∀(j:Nat) a,x.cells[j]? =some a->∃y,c[i*s+j]? =some y/\y.oneCell'=true/\R I L O a y):
 Good I L O w I (λ k=>if k=O.length then Loc.at w.heap.size (cap)else L k) (O++ [.live e s xs]) (w.alloc (.cells c e)):=h.auv c cap (.inl rfl) hc hx hm hs hr
end Go.Ab
namespace Go.Ab
def fx(P:Program)(I:da)(L:Nat->Loc)(O:List ae)(w:World)(s:Sem Next)(K:AV->List ae->Prop):Prop:=
 ∃x O' y I' L' w',K x O'/\Good I L O w I' L' O' w'/\R I' L' O' x y/\(s.run P w= .ok (.value y) w'∨(s.run P w= .ok .skip w'/\y=undef))
section
variable {P:Program} {I:da} {L:Nat->Loc} {O:List ae} {w:World} {K:AV->List ae->Prop}
theorem fx.same(h:Inv I L O w){s:Sem Next}{x:AV}{y:Value}(hk:K x O)(hr:R I L O x y)(hs:s.run P w= .ok (.value y) w):fx P I L O w s K:=
 ⟨x,O,y,I,L,w,hk,.refl h,hr,.inl hs⟩
theorem R.bool{x:Value}{b:Bool}(h:R I L O (.v (.bool b)) x):x= .bool b:=by cases h;rfl
theorem R.exact{x y:Value}(h:R I L O (.v y) x):x=y:=by cases h;rfl
theorem ajR{op:BinOp}{x y z:Value}(h:j8 op x y=some z)(t:TypeId)(a b:Operand)(w:World):
  (do eqGuard op t a b x y;binOp op t x y:Sem Value).run P w= .ok z w/\z.oneCell'=true:=by
 unfold j8 at h
 split at h
 ·rename_i k a' k' b'
  split at h
  ·cases op<;>simp[BinOp.eh]at* <;>simp only[agn]at h<;>split at h<;>simp at h<;>rename_i hh<;>subst h<;>
    simp[eqGuard,binOp,Op.shift,Int.not_lt.2 hh,Value.oneCell']
  ·split at h
   ·rename_i hk;subst hk;cases op<;>simp[BinOp.eh]at* <;>simp only[pz]at h
    case quo=>split at h<;>simp at h;rename_i hh;subst h;simp[eqGuard,binOp,Op.intDiv,hh,Value.oneCell']
    case rem=>split at h<;>simp at h;rename_i hh;subst h;simp[eqGuard,binOp,Op.intDiv,hh,Value.oneCell']
    all_goals (simp at h)
    all_goals (subst h;simp[eqGuard,binOp,Op.intArith,Op.intBits,Op.intCmp,Value.oneCell'])
   ·cases h
 ·rename_i a' b';cases op<;>simp only[zo]at h
  case add=>
   split at h<;>simp at h
   rename_i hh;subst h;have h2:¬((a'.size:Int)+(b'.size:Int)>IntKind.i64.max):=by have:=hh;push_cast at this;omega
   simp[eqGuard,binOp,Op.stringOp,Value.oneCell'];have h3:IntKind.i64.max=9223372036854775807:=by decide
   omega
  all_goals first
   |(simp at h;done)
   |(simp only[Option.some.injEq]at h;subst h;simp[eqGuard,binOp,Op.stringOp,Value.oneCell'])
 ·cases h
theorem ant{op:UnOp}{x z:Value}(h:sun op x=some z)(w:World):(Op.unary op x).run P w= .ok z w/\z.oneCell'=true:=by
 unfold sun at h
 split at h<;>cases h<;>simp[Op.unary,Op.intArith,Value.oneCell']
end
end Go.Ab
namespace Go.Ab
theorem yf(vs:List (Value×Nat))(off:Nat)(cells:Array Value):
  (vs.foldl (λ cs (p:Value×Nat)=>cs.setIfInBounds (off+p.2) p.1) cells).size=cells.size:=by
 induction vs generalizing cells with
 |nil=>rfl
 |cons a l ih=>simp[ih]
theorem zd(vs:List Value)(off:Nat):∀(k:Nat) (cells:Array Value),off+k+vs.length<=cells.size->∀j:Nat,
  ((vs.zipIdx k).foldl (λ cs (p:Value×Nat)=>cs.setIfInBounds (off+p.2) p.1) cells)[j]? =if off+k<=j/\j<off+k+vs.length then vs[j- (off+k)]? else cells[j]? :=by
 induction vs with
 |nil=>
  intro k cells h j;rw[if_neg (by simp only[List.length_nil];omega)];rfl
 |cons a l ih=>
  intro k cells h j;simp only[List.zipIdx_cons,List.foldl_cons,List.length_cons]at h⊢;rw[ih (k+1) _ (by simp;omega)];by_cases h1:off+(k+1)<=j/\j<off+(k+1)+l.length
  ·rw[if_pos h1,if_pos (by omega)];rw[show j- (off+k)=(j- (off+(k+1)))+1 by omega,List.getElem?_cons_succ]
  ·rw[if_neg h1,Array.getElem?_setIfInBounds];by_cases h2:off+k=j
   ·subst h2;rw[if_pos rfl,if_pos (by omega),if_pos (by omega)];simp
   ·rw[if_neg h2,if_neg (by omega)]
def lay(off:Nat)(vs:List Value)(cells:Array Value):Array Value:=(vs.zipIdx.foldl (λ cs (p:Value×Nat)=>cs.setIfInBounds (off+p.2) p.1) cells)
theorem xD(off:Nat)(vs:List Value)(cells:Array Value):(lay off vs cells).size=cells.size:=yf _ _ _
theorem abg{off:Nat}{vs:List Value}{cells:Array Value}(h:off+vs.length<=cells.size)(j:Nat):
  (lay off vs cells)[j]? =if off<=j/\j<off+vs.length then vs[j- off]? else cells[j]? :=by
 have:=zd vs off 0 cells (by omega) j;simpa [lay]using this
theorem aam{place:Nat->Option (Nat×Nat)}{cells:Array Value}{i off size:Nat}{v:Value}{rest:List (Nat×Value)}(hp:place i=some (off,size))(hs:v.cells.size=size)(hf:off+size<=cells.size):
  Instr.fill place cells ((i,v)::rest)=Instr.fill place (lay off v.cells.toList cells) rest:=by
 rw[Instr.fill,hp];simp only[hs,ne_eq,not_true_eq_false,decide_false,Bool.false_or,decide_eq_true_eq];rw[if_neg (by omega)];congr 1;rw[lay,←Array.foldl_toList,Array.toList_zipIdx]
section
variable {P:Program} {I:da} {L:Nat->Loc} {O:List ae} {w:World}
def RCs(I:da)(L:Nat->Loc)(O:List ae)(cs:List AV)(vs:Array Value):Prop:=
 cs.length=vs.size/\∀(j:Nat) c y,cs[j]? =some c->vs[j]? =some y->R I L O c y
theorem RCs.lay{cs:List AV}{vs:Array Value}(h:RCs I L O cs vs){x:AV}{y:Value}(hr:R I L O x y)(hx:(x.cI||x.isAgg)=true){off:Nat}(hf:off+x.cells.length<=cs.length):
  RCs I L O (cs.take off++x.cells++cs.drop (off+x.cells.length)) (lay off y.cells.toList vs)/\y.cells.size=x.cells.length:=by
 obtain⟨h1,h2⟩:=hr.cells hx;have hlen:y.cells.toList.length=x.cells.length:=by simp[h1]
 refine⟨⟨by rw[xD];simp[←h.1];omega,λ j c z hc hz=> ?_⟩,h1.symm⟩;rw[abg (by rw[hlen,←h.1];exact hf),hlen]at hz;by_cases hj:off<=j/\j<off+x.cells.length
 ·rw[if_pos hj]at hz
  have oI:x.cells[j- off]? =some c:=by
   rw[append_assoc,getElem?_append_right (by simp;omega),getElem?_append_left (by simp;omega)]at hc;rwa [length_take,min_eq_left (by omega)]at hc
  obtain⟨y',pN,lI⟩:=h2 _ c oI;rw[Array.getElem?_toList,pN]at hz;cases hz;exact lI
 ·rw[if_neg hj]at hz
  have oI:cs[j]? =some c:=by
   by_cases au:j<off
   ·rwa [append_assoc,getElem?_append_left (by simp;omega),getElem?_take,if_pos au]at hc
   ·rw[getElem?_append_right (by simp;omega),getElem?_drop]at hc;rw[←hc];congr 1;simp;omega
  exact h.2 j c z oI hz
end
end Go.Ab
namespace Go.Ab
section
variable {P:Program} {I:da} {L:Nat->Loc} {O:List ae} {w:World} {K:AV->List ae->Prop} {e:Env} {a:Act}
theorem uZ{xs:List Operand}{as:List aE}(h:xs.mapM bC=some as)(he:∀t,R I L O (e t) (a.tmps.getD t undef)):
  RL I L O (as.map (aE.ev e)) (xs.map a.eval).toArray:=by
 obtain⟨h1,h2⟩:=mapM_some h;refine⟨by simp[h1],λ i c x hc hx=> ?_⟩;simp only[List.getElem?_map,map_eq_some_iff]at hc;obtain⟨o,ho,rfl⟩:=hc;simp only[getElem?_toArray,List.getElem?_map,map_eq_some_iff]at hx;obtain⟨q,hq,rfl⟩:=hx;exact an (h2 i q o hq ho) he
theorem eV{t s b:Nat}{z:AV}(h:ld P t=some (s,b,z)):
  ∃i z0,P.info? t=some i/\i.zero=some z0/\ajf z0=some z/\i.size=s/\i.bytes=b/\z.cells.length=s/\0<s/\z0.cells.size=s/\z.storable=true:=by
 unfold ld at h;simp only[bind_eq_bind,bind_eq_some_iff]at h;obtain⟨i,hi,z0,hz,a,ha,h⟩:=h
 split at h<;>simp at h
 rename_i hh;obtain⟨rfl,rfl,rfl⟩:=h;exact⟨i,z0,hi,hz,ha,rfl,rfl,hh.1,hh.2.1,hh.2.2.1,hh.2.2.2⟩
theorem Inv.box(hi:Inv I L O w){x:AV}{y:Value}(t:Nat){s:Nat}(hr:R I L O x y)(hs:x.storable=true)(hl:x.cells.length=s)(h0:0<s):
  Good I L O w I (λ k=>if k=O.length then Loc.at w.heap.size (1)else L k) (O++ [.live t s [x]]) (w.alloc (.cells y.cells t))/\
  R I (λ k=>if k=O.length then Loc.at w.heap.size (1)else L k) (O++ [.live t s [x]]) (.ptr O.length 1 0 0) (.pointer (some ⟨w.heap.size,0,none⟩)):=by
 obtain⟨h1,h2⟩:=hr.oQ hs;refine⟨hi.new y.cells 1 (by omega) (by simp) (by simp[maxLen]) h0 λ i z hz=> ?_,?_⟩
 ·cases i with
  |zero=>
   simp at hz;subst hz;exact⟨hl,λ j c hj=>by simpa using h2 j c hj⟩
  |succ i=>simp at hz
 ·have:=R.di (I:=I) (L:=λ k=>if k=O.length then Loc.at w.heap.size (1)else L k) (O:=O++ [.live t s [x]]) O.length 1 0 0 t s [x] (by simp) rfl;simpa using this
theorem sA{fs:Array Field}(he:∀t,R I L O (e t) (a.tmps.getD t undef)){M:AV->Prop}:
  ∀(parts:List (Nat×Operand)) (ps:List (Nat×Nat×aE)) (z:List AV) (vs:Array Value),RCs I L O z vs->
  (parts.mapM λ (p:Nat×Operand)=>do let f ←fs[p.1]?;let n ←P.info? f.type;some (f.offset,n.size,←bC p.2))=some ps->
  iO e z ps M->∃zs l5,M (.agg zs)/\RCs I L O zs l5/\
   ∀pl:Nat->Option (Nat×Nat),(∀i f n,fs[i]? =some f->P.info? f.type=some n->pl i=some (f.offset,n.size))->
    Instr.fill pl vs (parts.map λ (p:Nat×Operand)=>(p.1,a.eval p.2))=some l5
 | [],ps,z,vs,hz,hp,hk=>by
   simp at hp;subst hp;exact⟨z,vs,hk,hz,λ pl _=>rfl⟩
 |(i,x)::parts,ps,z,vs,hz,hp,hk=>by
  simp only[mapM_cons,bind_eq_bind,pure_def,bind_eq_some_iff,Option.some.injEq]at hp;obtain⟨q,⟨f,hf,n,hn,ax,hx,rfl⟩,qs,hqs,rfl⟩:=hp;obtain⟨h1,h2,h3,h4⟩:=hk;have hr:=an hx he;obtain⟨hz',lj⟩:=hz.lay hr h2 (off:=f.offset) (by omega);rw[h1]at hz';obtain⟨zs,l5,m1,m2,m3⟩:=sA he parts qs _ _ hz' hqs h4;refine⟨zs,l5,m1,m2,λ pl hpl=> ?_⟩;rw[List.map_cons,aam (hpl i f n hf hn) (lj.trans h1) (by rw[←hz.1];omega)];exact m3 pl hpl
end
end Go.Ab
namespace Go.Ab
def fe(I:da)(L:Nat->Loc)(O:List ae)(s:Nat)(xs:List AV)(c:Array Value):Prop:=
 ∀(i:Nat) x,xs[i]? =some x->x.cells.length=s/\∀(j:Nat) a,x.cells[j]? =some a->∃y,c[i*s+j]? =some y/\y.oneCell'=true/\R I L O a y
theorem abt{i j s n:Nat}(hi:i<n)(hj:j<s):i*s+j<n*s:=by
 calc i*s+j<i*s+s:=by omega
  _=(i+1)*s:=by rw[add_mul,Nat.one_mul]
  _<=n*s:=mul_le_mul_right s hi
theorem ale{i i' j s:Nat}(hj:j<s)(h:i≠i'):¬(i'*s<=i*s+j/\i*s+j<i'*s+s):=by
 intro⟨h1,h2⟩;rcases Nat.lt_or_gt_of_ne h with h3|h3
 ·have:=mul_le_mul_right s (show i+1<=i' from h3);rw[add_mul]at this;omega
 ·have:=mul_le_mul_right s (show i'+1<=i from h3);rw[add_mul]at this;omega
section
variable {P:Program} {I:da} {L:Nat->Loc} {O:List ae} {w:World} {K:AV->List ae->Prop} {e:Env} {a:Act}
theorem fe.made{z:AV}{z0:Value}{s n cap:Nat}(hz:R I L O z z0)(hs:z.storable=true)(hl:z.cells.length=s)(h0:0<s)(hn:n<=cap):
  fe I L O s (List.replicate n z) ((Array.range (cap*s)).map (z0.cells[·%z0.cells.size]!)):=by
 obtain⟨h1,h2⟩:=hz.oQ hs;intro i x hx;rw[List.getElem?_replicate]at hx
 split at hx<;>simp at hx
 rename_i hi;subst hx;refine⟨hl,λ j c hj=> ?_⟩;obtain⟨y,hy,ho,hr⟩:=h2 j c hj;have hjs:j<s:=by rw[←hl];exact(List.getElem?_eq_some_iff.1 hj).1
 have au:i*s+j<cap*s:=abt (by omega) hjs
 have axS:(i*s+j)%z0.cells.size=j:=by
  rw[←h1,hl,Nat.add_comm,Nat.add_mul_mod_self_right,Nat.mod_eq_of_lt hjs]
 refine⟨y,?_,ho,hr⟩;rw[Array.getElem?_map,Array.getElem?_range];simp only[au,if_true,map_some,axS];obtain⟨gV,he⟩:=Array.getElem?_eq_some_iff.1 hy;rw[←he,getElem!_pos z0.cells j gV]
theorem fe.lay{xs:List AV}{c:Array Value}{s:Nat}(h:fe I L O s xs c)(hc:xs.length*s<=c.size){x:AV}{y:Value}(hr:R I L O x y)(hs:x.storable=true)(hl:x.cells.length=s){i:Nat}(hi:i<xs.length):
  fe I L O s (xs.set i x) (lay (i*s) y.cells.toList c)/\y.cells.size=s:=by
 obtain⟨h1,h2⟩:=hr.oQ hs;have hlen:y.cells.toList.length=s:=by simp;omega
 have lW:i*s+s<=c.size:=by
  have:=mul_le_mul_right s (show i+1<=xs.length from hi);rw[add_mul]at this;omega
 refine⟨λ k z hz=> ?_,by omega⟩;rw[List.getElem?_set]at hz;by_cases hk:i=k
 ·subst hk;rw[if_pos rfl,if_pos hi]at hz;cases hz;refine⟨hl,λ j d hj=> ?_⟩;obtain⟨v,hv,ho,hrv⟩:=h2 j d hj;have hjs:j<s:=by rw[←hl];exact(List.getElem?_eq_some_iff.1 hj).1
  refine⟨v,?_,ho,hrv⟩;rw[abg (by omega),if_pos (by omega)];simpa using hv
 ·rw[if_neg hk]at hz;obtain⟨h3,h4⟩:=h k z hz;refine⟨h3,λ j d hj=> ?_⟩;obtain⟨v,hv,ho,hrv⟩:=h4 j d hj;have hjs:j<s:=by rw[←h3];exact(List.getElem?_eq_some_iff.1 hj).1
  refine⟨v,?_,ho,hrv⟩;rw[abg (by omega),hlen,if_neg (ale hjs (λ h=>hk h.symm))];exact hv
theorem qn(he:∀t,R I L O (e t) (a.tmps.getD t undef)){s:Nat}{M:List AV->Prop}:
  ∀(parts:List (Nat×Operand)) (ps:List (Nat×aE)) (xs:List AV) (c:Array Value),fe I L O s xs c->c.size=xs.length*s->
  (parts.mapM λ (p:Nat×Operand)=>do some (p.1,←bC p.2))=some ps->
  lP e s xs ps M->∃hZ c',M hZ/\fe I L O s hZ c'/\hZ.length=xs.length/\c'.size=c.size/\
   Instr.fill (λ i=>some (i*s,s)) c (parts.map λ (p:Nat×Operand)=>(p.1,a.eval p.2))=some c'
 | [],ps,xs,c,hx,hc,hp,hk=>by
   simp at hp;subst hp;exact⟨xs,c,hk,hx,rfl,rfl,rfl⟩
 |(i,x)::parts,ps,xs,c,hx,hc,hp,hk=>by
  simp only[mapM_cons,bind_eq_bind,pure_def,bind_eq_some_iff,Option.some.injEq]at hp;obtain⟨q,⟨ax,hax,rfl⟩,qs,hqs,rfl⟩:=hp;obtain⟨h1,h2,h3,h4⟩:=hk;have hr:=an hax he;obtain⟨yH,lj⟩:=hx.lay (by omega) hr h2 h1 h3
  have lW:i*s+s<=c.size:=by
   have:=mul_le_mul_right s (show i+1<=xs.length from h3);rw[add_mul]at this;omega
  obtain⟨hZ,c',m1,m2,m3,m4,m5⟩:=qn he parts qs _ _ yH (by rw[xD];simpa using hc) hqs h4;refine⟨hZ,c',m1,m2,by simpa using m3,by rw[m4,xD],?_⟩;rw[List.map_cons,aam rfl lj lW];exact m5
end
end Go.Ab
namespace Go.Ab
section
variable {P:Program} {I:da} {L:Nat->Loc} {O:List ae} {w:World} {K:AV->List ae->Prop} {e:Env} {a:Act}
theorem anu{y:AV}{v:Value}(hi:Inv I L O w)(hr:R I L O y v){M:List AV->Prop}(h:qd O y M):
  ∃ys ya c,M ys/\v= .slice ya ys.length c/\∀s,(∀x∈ys,x.cells.length=s)->ys≠[]->∃b o,ya=some ⟨b,o,none⟩/\
   ∀(i:Nat) x,ys[i]? =some x->∀(j:Nat) d,x.cells[j]? =some d->∃u,w.cell? ⟨b,o+(i*s+j),none⟩=some u/\u.oneCell'=true/\R I L O d u:=by
 unfold qd at h
 split at h
 ·cases hr;exact⟨[],none,0,h,rfl,λ s _ h=>(h rfl).elim⟩
 ·rename_i ys;cases hr with
  |me ya cap=>exact⟨[],ya,cap,h,rfl,λ s _ h=>(h rfl).elim⟩
  |sl _ bc off cap s bB h1 h2 h3 h4 h5=>
   refine⟨ys,_,cap,h,rfl,λ s' hs' cr=>⟨bc,off,rfl,λ i x hx j d hj=> ?_⟩⟩;have hss:s=s':=by rw[←h3 i x hx,hs' x (mem_of_getElem? hx)]
   subst hss;obtain⟨h6,h7⟩:=h4 i x j d hx hj;exact⟨bB i j,by rw[←add_assoc];exact hi.iy _ _ _ h6,h7,h5 i x j d hx hj⟩
 ·rename_i n len
  split at h
  ·rename_i t s0 xs hn;obtain⟨rfl,h⟩:=h;have hv:=hr.e9 hn rfl;subst hv
   ·refine⟨xs,_,_,h,rfl,λ s hs cr=>⟨_,0,rfl,λ i x hx j d hj=> ?_⟩⟩;obtain⟨c,⟨j5,h1,dn⟩,h2,h3,h4,h5,h6⟩:=hi.obj n t s0 xs hn;obtain⟨h7,h8⟩:=h6 i x hx;have hss:s0=s:=by rw[←h7,hs x (mem_of_getElem? hx)]
    subst hss;obtain⟨u,hu,ho,hru⟩:=h8 j d hj;exact⟨u,by rw[zero_add,dV h1];exact hu,ho,hru⟩
  ·rename_i t s0 hn;obtain⟨rfl,h⟩:=h;obtain⟨rfl,_⟩:=hr.lz hn;exact⟨[],none,0,h,rfl,λ s _ h=>(h rfl).elim⟩
  ·exact h.elim
 ·exact h.elim
def dt(w:World)(b o n:Nat):List Value:=(List.range n).map λ k=>(w.cell? ⟨b,o+k,none⟩).getD undef
theorem ahj{k n s:Nat}(h:k<n*s):k/s<n/\k%s<s/\k/s*s+k%s=k:=by
 have hs:0<s:=by rcases Nat.eq_zero_or_pos s with rfl|h0;simp at h;exact h0
 exact⟨(Nat.div_lt_iff_lt_mul hs).2 h,Nat.mod_lt _ hs,by rw[Nat.mul_comm];exact Nat.div_add_mod k s⟩
theorem lD{ys:List AV}{s b o:Nat}(hs:∀x∈ys,x.cells.length=s)
  (h:∀(i:Nat) x,ys[i]? =some x->∀(j:Nat) d,x.cells[j]? =some d->∃u,w.cell? ⟨b,o+(i*s+j),none⟩=some u/\u.oneCell'=true/\R I L O d u):
  (dt w b o (ys.length*s)).length=ys.length*s/\
  (∀(j:Nat) u,(dt w b o (ys.length*s))[j]? =some u->w.cell? ((⟨b,o,none⟩:Addr).add j)=some u)/\
  (∀u∈dt w b o (ys.length*s),u.oneCell'=true)/\
  fe I L O s ys (dt w b o (ys.length*s)).toArray:=by
 have dc:∀k,k<ys.length*s->∃u,w.cell? ⟨b,o+k,none⟩=some u/\u.oneCell'=true/\(dt w b o (ys.length*s))[k]? =some u:=by
  intro k hk;obtain⟨h1,h2,h3⟩:=ahj hk;have hx:ys[k/s]? =some ys[k/s]:=by simp[h1]
  have hl:=hs _ (mem_of_getElem? hx);obtain⟨u,hu,ho,_⟩:=h _ _ hx (k%s) (ys[k/s].cells[k%s]'(by omega)) (by simp[hl,h2]);rw[h3]at hu;refine⟨u,hu,ho,?_⟩;simp[dt,hk,hu]
 refine⟨by simp[dt],λ j u hu=> ?_,λ u hu=> ?_,λ i x hx=>⟨hs x (mem_of_getElem? hx),λ j d hj=> ?_⟩⟩
 ·have hj:j<ys.length*s:=by have:=(List.getElem?_eq_some_iff.1 hu).1;simpa [dt]using this
  obtain⟨u',h1,h2,h3⟩:=dc j hj;rw[h3]at hu;cases hu;rw[add_lit];exact h1
 ·obtain⟨j,hj⟩:=List.getElem?_of_mem hu;have hjl:j<ys.length*s:=by have:=(List.getElem?_eq_some_iff.1 hj).1;simpa [dt]using this
  obtain⟨u',h1,h2,h3⟩:=dc j hjl;rw[h3]at hj;cases hj;exact h2
 ·obtain⟨u,hu,ho,hr⟩:=h i x hx j d hj;have au:i*s+j<ys.length*s:=abt (List.getElem?_eq_some_iff.1 hx).1 (by rw[←hs x (mem_of_getElem? hx)];exact(List.getElem?_eq_some_iff.1 hj).1);refine⟨u,?_,ho,hr⟩;simp[dt,au,hu]
theorem fe.append{s:Nat}{xs ys:List AV}{c d:Array Value}(hx:fe I L O s xs c)(hy:fe I L O s ys d)(r:List Value)(acD:List Value)
  (ho:acD.length=xs.length*s) (hoc:∀(k:Nat),k<xs.length*s->acD[k]? =c[k]?):
  fe I L O s (xs++ys) (acD++d.toList++r).toArray:=by
 intro i x hi;by_cases h:i<xs.length
 ·rw[getElem?_append_left h]at hi;obtain⟨h1,h2⟩:=hx i x hi;refine⟨h1,λ j u hj=> ?_⟩;obtain⟨y,pN,ho',hr⟩:=h2 j u hj;have hjs:j<s:=by rw[←h1];exact(List.getElem?_eq_some_iff.1 hj).1
  have au:i*s+j<xs.length*s:=abt h hjs;refine⟨y,?_,ho',hr⟩;simp only[getElem?_toArray];rw[append_assoc,getElem?_append_left (by omega),hoc _ au,pN]
 ·rw[getElem?_append_right (by omega)]at hi;obtain⟨h1,h2⟩:=hy _ x hi;refine⟨h1,λ j u hj=> ?_⟩;obtain⟨y,pN,ho',hr⟩:=h2 j u hj
  have he:i*s+j=xs.length*s+((i- xs.length)*s+j):=by
   rw[←add_assoc,←add_mul];congr 2;omega
  have au:(i- xs.length)*s+j<d.toList.length:=by
   have:=(Array.getElem?_eq_some_iff.1 pN).1;simpa using this
  refine⟨y,?_,ho',hr⟩;simp only[getElem?_toArray];rw[append_assoc,he,getElem?_append_right (by omega),ho,Nat.add_sub_cancel_left,getElem?_append_left au,Array.getElem?_toList,pN]
end
end Go.Ab
namespace Go.Ab
section
variable {P:Program} {I:da} {L:Nat->Loc} {O:List ae} {w:World} {K:AV->List ae->Prop} {e:Env} {a:Act}
theorem oT{t ty el:TypeId}{i:TypeInfo}(ht:P.underlying t=some (.slice el))(hi:P.info? el=some i)(b y:Option Addr)(n cap c:Nat)(hn:n<=cap)(w:World):
  (Builtin.append_ #[t,t] ty #[.slice b n cap,.slice y 0 c]).run P w= .ok (.slice b n cap) w:=by
 have hf:(Builtin.firstCells i.size 0 (.slice y 0 c)).run P w= .ok #[] w:=by
  cases y with
  |none=>simp[Builtin.firstCells]
  |some y=>have:=run_firstCells_some (P:=P) w i.size 0 y 0 c [] (by simp) (by simp);simpa using this
 cases b<;>simp[Builtin.append_,run_underlying ht,sizeOf,typeInfo,hi,Builtin.lenOf,hn,hf,storeCells]
theorem kq{n:Nat}(hn:n<O.length)(o:ae)(k:Nat):(O.set n o)[k]? =if k=n then some o else O[k]? :=by
 rw[List.getElem?_set];by_cases hk:n=k
 ·subst hk;simp[hn]
 ·rw[if_neg hk,if_neg (λ h=>hk h.symm)]
theorem fe.jE{s:Nat}{xs:List AV}{r:List Value}{d z:Array Value}(h:fe I L O s xs (r++d.toList++z.toList).toArray):fe I L O s xs (r.toArray++d++z):=by
 intro i x hx;obtain⟨q1,q2⟩:=h i x hx;refine⟨q1,λ j d' hj=> ?_⟩;obtain⟨u,hu,ho,hr⟩:=q2 j d' hj;exact⟨u,by rw[←hu];congr 1;apply Array.ext';simp,ho,hr⟩
theorem apC{t ty el:Nat}{i:TypeInfo}{z0:Value}(ht:P.underlying t=some (.slice el))(hi:P.info? el=some i)(hz:i.zero=some z0)(h0:0<i.size)(xV:z0.cells.size=i.size)
  (hinv:Inv I L O w) {ys:List AV} {b o c:Nat} (hs:∀x∈ys,x.cells.length=i.size) (cr:ys≠[])
  (hc:∀(k:Nat) x,ys[k]? =some x->∀(j:Nat) d,x.cells[j]? =some d->∃u,w.cell? ⟨b,o+(k*i.size+j),none⟩=some u/\u.oneCell'=true/\R I L O d u)
  (mY:ys.length*i.bytes<=140737488355328) (jj:ys.length<=maxLen):
  ∃y' I' L' w',Good I L O w I' L' (O++ [.live el i.size ys]) w'/\R I' L' (O++ [.live el i.size ys]) (.row O.length ys.length) y'/\
   (Builtin.append_ #[t,t] ty #[.slice none 0 0,.slice (some ⟨b,o,none⟩) ys.length c]).run P w= .ok y' w':=by
 obtain⟨h1,h2,h3,h4⟩:=lD hs hc;have tN:0<ys.length:=List.length_pos_iff.2 cr;have hm:ys.length<=9223372036854775807:=by simpa [maxLen]using jj
 have bJ:=run_append_nil (P:=P) w t ty el i z0 ht hi hz ⟨b,o,none⟩ ys.length c (dt w b o (ys.length*i.size)) h1 h2 tN (by omega) (by omega);have hge:=grownCap_ge w ys.length 0 el;have hle:=grownCap_le_maxLen w ys.length 0 el jj;generalize grownCap w ys.length 0 el=cap at*;have dP:=(Good.drawn hinv (w.drawn+1));have eH:=fe.append (I:=I) (L:=L) (O:=O) (s:=i.size) (xs:=[]) (ys:=ys) (c:= #[]) (d:=(dt w b o (ys.length*i.size)).toArray) (λ i x hx=>by simp at hx) h4 (Builtin.zeroCells z0.cells (cap- ys.length)).toList [] (by simp) (by simp)
 have fw:=dP.inv.new (e:=el) (s:=i.size) (xs:=ys) ((dt w b o (ys.length*i.size)).toArray++Builtin.zeroCells z0.cells (cap- ys.length)) cap
  (by rw[Array.size_append,size_zeroCells,xV];simp only[size_toArray,h1];rw[←add_mul];congr 1;omega) hge hle h0 (by
   have:fe I L O i.size ys ((dt w b o (ys.length*i.size)).toArray++Builtin.zeroCells z0.cells (cap- ys.length)):=by simpa using fe.jE eH
   exact this)
 refine⟨_,_,_,_,dP.trans fw,?_,bJ⟩;have:=R.bV (I:=I) (L:=λ k=>if k=O.length then Loc.at w.heap.size (cap)else L k) (O:=O++ [.live el i.size ys]) O.length ys.length el i.size ys (by simp) rfl;simpa using this
theorem ajd{t ty el:Nat}{i:TypeInfo}{z0:Value}(ht:P.underlying t=some (.slice el))(hi:P.info? el=some i)(hz:i.zero=some z0)(h0:0<i.size)(xV:z0.cells.size=i.size)
  (hinv:Inv I L O w) {n:Nat} (hn:O[n]? =some (.nil el i.size)) {ys:List AV} {b o c:Nat} (hs:∀x∈ys,x.cells.length=i.size) (cr:ys≠[])
  (hc:∀(k:Nat) x,ys[k]? =some x->∀(j:Nat) d,x.cells[j]? =some d->∃u,w.cell? ⟨b,o+(k*i.size+j),none⟩=some u/\u.oneCell'=true/\R I L O d u)
  (mY:ys.length*i.bytes<=140737488355328) (jj:ys.length<=maxLen):
  ∃y' I' L' w',Good I L O w I' L' (O.set n (.live el i.size ys)) w'/\R I' L' (O.set n (.live el i.size ys)) (.row n ys.length) y'/\
   (Builtin.append_ #[t,t] ty #[.slice none 0 0,.slice (some ⟨b,o,none⟩) ys.length c]).run P w= .ok y' w':=by
 have lu:n<O.length:=(List.getElem?_eq_some_iff.1 hn).1;obtain⟨h1,h2,h3,h4⟩:=lD hs hc;have tN:0<ys.length:=List.length_pos_iff.2 cr;have hm:ys.length<=9223372036854775807:=by simpa [maxLen]using jj
 have bJ:=run_append_nil (P:=P) w t ty el i z0 ht hi hz ⟨b,o,none⟩ ys.length c (dt w b o (ys.length*i.size)) h1 h2 tN (by omega) (by omega);have hge:=grownCap_ge w ys.length 0 el;have hle:=grownCap_le_maxLen w ys.length 0 el jj;generalize grownCap w ys.length 0 el=cap at*;have dP:=(Good.drawn hinv (w.drawn+1));have eH:=fe.append (I:=I) (L:=L) (O:=O) (s:=i.size) (xs:=[]) (ys:=ys) (c:= #[]) (d:=(dt w b o (ys.length*i.size)).toArray) (λ i x hx=>by simp at hx) h4 (Builtin.zeroCells z0.cells (cap- ys.length)).toList [] (by simp) (by simp)
 have fw:=dP.inv.put (n:=n) (l:=Loc.at w.heap.size (cap)) (e:=el) (s:=i.size) (xs:=ys) (O':=O.set n (.live el i.size ys))
  (w':=w.drew.alloc (.cells ((dt w b o (ys.length*i.size)).toArray++Builtin.zeroCells z0.cells (cap- ys.length)) el))
  (kq lu _) (by simp) (λ b' jr _=>heap_alloc_old w.drew _ b' jr) rfl rfl rfl (by rw[World.size_alloc];exact le_succ _) (.inl (le_refl _))
  ⟨_,⟨_,heap_alloc_new w.drew _,.inl rfl⟩,by rw[Array.size_append,size_zeroCells,xV];simp only[size_toArray,h1];rw[←add_mul];congr 1;omega,hge,hle,h0,by
    have:fe I L O i.size ys ((dt w b o (ys.length*i.size)).toArray++Builtin.zeroCells z0.cells (cap- ys.length)):=by simpa using fe.jE eH
    exact this⟩
  (λ _=> .inr ⟨hn,cr⟩)
 refine⟨_,_,_,_,dP.trans fw,?_,bJ⟩;have:=R.bV (I:=I) (L:=λ k=>if k=n then Loc.at w.heap.size (cap)else L k) (O:=O.set n (.live el i.size ys)) n ys.length el i.size ys (by simp[lu]) rfl;simpa using this
theorem amO{t ty el:Nat}{i:TypeInfo}(ht:P.underlying t=some (.slice el))(hi:P.info? el=some i)
  (hinv:Inv I L O w) {n:Nat} {xs ys:List AV} {b o c:Nat} (hn:O[n]? =some (.live el i.size xs)) (hs:∀x∈ys,x.cells.length=i.size)
  (hc:∀(k:Nat) x,ys[k]? =some x->∀(j:Nat) d,x.cells[j]? =some d->∃u,w.cell? ⟨b,o+(k*i.size+j),none⟩=some u/\u.oneCell'=true/\R I L O d u)
  (j1:xs.length+ys.length<=(L n).cap):
  ∃y' I' L' w',Good I L O w I' L' (O.set n (.live el i.size (xs++ys))) w'/\R I' L' (O.set n (.live el i.size (xs++ys))) (.row n (xs.length+ys.length)) y'/\
   (Builtin.append_ #[t,t] ty #[.slice (some ⟨(L n).bc,0,none⟩) xs.length (L n).cap,.slice (some ⟨b,o,none⟩) ys.length c]).run P w= .ok y' w':=by
 obtain⟨h1,h2,h3,h4⟩:=lD hs hc;obtain⟨cur,⟨j5,g1,dn⟩,g2,g3,g4,g5,g6⟩:=hinv.obj n _ _ xs hn;have lu:n<O.length:=(List.getElem?_eq_some_iff.1 hn).1;have hmul:xs.length*i.size+ys.length*i.size<=(L n).cap*i.size:=by rw[←add_mul];exact mul_le_mul_right _ j1
 have lW:xs.length*i.size+(dt w b o (ys.length*i.size)).length<=cur.size:=by
  rw[h1,g2];exact hmul
 have bJ:=rB (P:=P) w t ty el i ht hi (L n).bc xs.length (L n).cap cur g1 dn ⟨b,o,none⟩ ys.length c (dt w b o (ys.length*i.size)) h1 h2 h3 j1 lW
 have eH:=fe.append (I:=I) (L:=L) (O:=O) (s:=i.size) (xs:=xs) (ys:=ys) (c:=cur) (d:=(dt w b o (ys.length*i.size)).toArray) g6 h4 (cur.toList.drop (xs.length*i.size+(dt w b o (ys.length*i.size)).length)) (cur.toList.take (xs.length*i.size))
  (by simp only[length_take,Array.length_toList];omega) (λ k hk=>by rw[getElem?_take,if_pos hk,Array.getElem?_toList])
 have dP:=hinv.put (n:=n) (l:=L n) (e:=el) (s:=i.size) (xs:=xs++ys) (O':=O.set n (.live el i.size (xs++ys))) (w':=w.setRow (L n).bc (cur.toList.take (xs.length*i.size)++dt w b o (ys.length*i.size)++cur.toList.drop (xs.length*i.size+(dt w b o (ys.length*i.size)).length)).toArray)
  (kq lu _) (by simp) (λ b' _ jr=>setRow_other w _ _ _ jr) rfl rfl rfl (by simp) (.inr ⟨_,_,_,hn,rfl⟩)
  ⟨_,⟨_,setRow_heap w _ cur _ _ _ g1,dn.size (by simp only[size_toArray,length_append,length_take,length_drop,Array.length_toList];omega)⟩,by simp only[size_toArray,length_append,length_take,length_drop,Array.length_toList];omega,by simpa using j1,g4,g5,eH⟩
  (λ _=> .inl ⟨xs,hn,by simp,λ _=>rfl⟩)
 refine⟨_,_,_,_,dP,?_,bJ⟩;have:=R.bV (I:=I) (L:=λ k=>if k=n then L n else L k) (O:=O.set n (.live el i.size (xs++ys))) n (xs.length+ys.length) el i.size (xs++ys) (by simp[lu]) (by simp);simpa using this
theorem amP{t ty el:Nat}{i:TypeInfo}{z0:Value}(ht:P.underlying t=some (.slice el))(hi:P.info? el=some i)(hz:i.zero=some z0)(xV:z0.cells.size=i.size)
  (hinv:Inv I L O w) {n:Nat} {xs ys:List AV} {b o c:Nat} (hn:O[n]? =some (.live el i.size xs)) (hs:∀x∈ys,x.cells.length=i.size) (cr:ys≠[])
  (hc:∀(k:Nat) x,ys[k]? =some x->∀(j:Nat) d,x.cells[j]? =some d->∃u,w.cell? ⟨b,o+(k*i.size+j),none⟩=some u/\u.oneCell'=true/\R I L O d u)
  (mY:(xs.length+ys.length)*i.bytes<=140737488355328) (jj:xs.length+ys.length<=maxLen) (j1:(L n).cap<xs.length+ys.length):
  ∃y' I' L' w',Good I L O w I' L' (O.set n (.live el i.size (xs++ys))) w'/\R I' L' (O.set n (.live el i.size (xs++ys))) (.row n (xs.length+ys.length)) y'/\
   (Builtin.append_ #[t,t] ty #[.slice (some ⟨(L n).bc,0,none⟩) xs.length (L n).cap,.slice (some ⟨b,o,none⟩) ys.length c]).run P w= .ok y' w':=by
 obtain⟨h1,h2,h3,h4⟩:=lD hs hc;obtain⟨cur,⟨j5,g1,dn⟩,g2,g3,g4,g5,g6⟩:=hinv.obj n _ _ xs hn;have lu:n<O.length:=(List.getElem?_eq_some_iff.1 hn).1;have hm:xs.length+ys.length<=9223372036854775807:=by simpa [maxLen]using jj
 have tN:0<ys.length:=List.length_pos_iff.2 cr
 have holds:(cur.toList.take (xs.length*i.size)).length=xs.length*i.size:=by
  simp only[length_take,Array.length_toList,g2];exact min_eq_left (mul_le_mul_right _ g3)
 have bJ:=run_append_grow (P:=P) w t ty el i z0 ht hi hz ⟨(L n).bc,0,none⟩ xs.length (L n).cap (cur.toList.take (xs.length*i.size)) holds (λ j v hv=>by
  rw[add_lit,zero_add,dV g1];rw[getElem?_take]at hv
  split at hv
  ·simpa using hv
  ·cases hv) ⟨b,o,none⟩ ys.length c (dt w b o (ys.length*i.size)) h1 h2 (by omega) (by omega) (growslice_fits (by omega) mY)
 have hge:=grownCap_ge w (xs.length+ys.length) (L n).cap el;have hle:=grownCap_le_maxLen w (xs.length+ys.length) (L n).cap el jj;generalize grownCap w (xs.length+ys.length) (L n).cap el=cap at*
 have eH:=fe.append (I:=I) (L:=L) (O:=O) (s:=i.size) (xs:=xs) (ys:=ys) (c:=cur) (d:=(dt w b o (ys.length*i.size)).toArray) g6 h4 (Builtin.zeroCells z0.cells (cap- (xs.length+ys.length))).toList (cur.toList.take (xs.length*i.size))
  holds (λ k hk=>by rw[getElem?_take,if_pos hk,Array.getElem?_toList])
 have x4:=(Good.drawn hinv (w.drawn+1))
 have dP:=x4.inv.put (n:=n) (l:=Loc.at w.heap.size (cap)) (e:=el) (s:=i.size) (xs:=xs++ys) (O':=O.set n (.live el i.size (xs++ys)))
  (w':=w.drew.alloc (.cells ((cur.toList.take (xs.length*i.size)).toArray++(dt w b o (ys.length*i.size)).toArray++Builtin.zeroCells z0.cells (cap- (xs.length+ys.length))) el))
  (kq lu _) (by simp) (λ b' jr _=>heap_alloc_old w.drew _ b' jr) rfl rfl rfl (by rw[World.size_alloc];exact le_succ _) (.inl (le_refl _))
  ⟨_,⟨_,heap_alloc_new w.drew _,.inl rfl⟩,by
     simp only[Array.size_append,size_zeroCells,xV,size_toArray,holds,h1];rw[←add_mul,←add_mul];congr 1;omega,by simpa using hge,hle,g5,fe.jE eH⟩
  (λ _=> .inl ⟨xs,hn,by simp,λ he=>by simp at he;exact(cr he).elim⟩)
 refine⟨_,_,_,_,x4.trans dP,?_,bJ⟩;have:=R.bV (I:=I) (L:=λ k=>if k=n then Loc.at w.heap.size (cap)else L k) (O:=O.set n (.live el i.size (xs++ys))) n (xs.length+ys.length) el i.size (xs++ys) (by simp[lu]) (by simp);simpa using this
theorem apB{t ty el s by_:Nat}{z:AV}(ht:P.underlying t=some (.slice el))(kJ:ld P el=some (s,by_,z)){x y:AV}{vx vy:Value}
  (hinv:Inv I L O w) (hx:R I L O x vx) (hy:R I L O y vy)
  (hk0:qd O y λ ys=>(∀y∈ys,y.cells.length=s)/\gY O x el s by_ ys K):
  ∃x' O' y' I' L' w',K x' O'/\Good I L O w I' L' O' w'/\R I' L' O' x' y'/\(Builtin.append_ #[t,t] ty #[vx,vy]).run P w= .ok y' w':=by
 obtain⟨i,z0,hi,hz,hz0,lj,hby,hzl,h0,xV,iu⟩:=eV kJ;obtain⟨ys,ya,c,⟨hs,hk⟩,rfl,afG⟩:=anu hinv hy hk0;clear hk0;subst lj;subst hby;cases x
 case aQ=>
  obtain⟨mY,jj,hk0,qY⟩:=hk;cases hx;by_cases cr:ys= []
  ·subst cr;exact⟨_,O,_,I,L,w,hk0 rfl,.refl hinv,.aQ,oT ht hi none ya 0 0 c (le_refl _) w⟩
  ·obtain⟨b,o,rfl,hc⟩:=afG i.size hs cr;obtain⟨y',I',L',w',q1,q2,q3⟩:=apC ht hi hz h0 xV hinv hs cr hc mY jj (c:=c);exact⟨_,_,y',I',L',w',qY cr,q1,q2,q3⟩
 case row n len=>
  cases hn:O[n]? with
  |none=>simp only[gY,hn]at hk
  |some ob=>
   cases ob with
   |dead=>simp only[gY,hn]at hk
   |own a=>simp only[gY,hn]at hk
   |cN g=>simp only[gY,hn]at hk
   |nil t' s'=>
    simp only[gY,hn]at hk;obtain⟨rfl,rfl,rfl,mY,jj,hk0,qY⟩:=hk;obtain⟨rfl,_⟩:=hx.lz hn;by_cases cr:ys= []
    ·subst cr;exact⟨_,O,_,I,L,w,hk0 rfl,.refl hinv,.eb n _ _ hn,oT ht hi none ya 0 0 c (le_refl _) w⟩
    ·obtain⟨b,o,rfl,hc⟩:=afG i.size hs cr;obtain⟨y',I',L',w',q1,q2,q3⟩:=ajd ht hi hz h0 xV hinv hn hs cr hc mY jj (c:=c);exact⟨_,_,y',I',L',w',qY cr,q1,q2,q3⟩
   |live t' s' xs=>
    simp only[gY,hn]at hk;obtain⟨rfl,rfl,hlen,mY,jj,hk⟩:=hk;have hv:=hx.e9 hn hlen;subst hv;subst hlen;have lu:n<O.length:=(List.getElem?_eq_some_iff.1 hn).1;by_cases cr:ys= []
    ·subst cr;obtain⟨cur,⟨j5,g1,dn⟩,g2,g3,g4,g5,g6⟩:=hinv.obj n _ _ xs hn
     have hO:O.set n (.live t' i.size (xs++ []))=O:=by
      rw[append_nil];apply ext_getElem?;intro k;rw[kq lu];split
      ·rename_i hk';rw[hk',hn]
      ·rfl
     rw[hO]at hk;exact⟨_,O,_,I,L,w,hk,.refl hinv,hx,oT ht hi _ ya xs.length _ c g3 w⟩
    ·obtain⟨b,o,rfl,hc⟩:=afG i.size hs cr;by_cases j1:xs.length+ys.length<=(L n).cap
     ·obtain⟨y',I',L',w',q1,q2,q3⟩:=amO ht hi hinv hn hs hc j1 (c:=c);exact⟨_,_,y',I',L',w',hk,q1,q2,q3⟩
     ·obtain⟨y',I',L',w',q1,q2,q3⟩:=amP ht hi hz xV hinv hn hs cr hc mY jj (by omega) (c:=c);exact⟨_,_,y',I',L',w',hk,q1,q2,q3⟩
 all_goals exact hk.elim
end
end Go.Ab
namespace Go.Ab
def cf(s:ByteArray):List AV:=s.data.toList.map λ c=> .v (.int .u8 c.toNat)
def eO(s:ByteArray):List Value:=s.data.toList.map λ c=> .int .u8 c.toNat
theorem iB(s:ByteArray):(cf s).length=s.size:=by simp[cf]
theorem zN(s:ByteArray):(eO s).length=s.size:=by simp[eO]
theorem th(s:ByteArray):(eO s).toArray=s.data.map λ b=>Value.int .u8 b.toNat:=by
 apply Array.ext';simp[eO]
section
variable {P:Program} {I:da} {L:Nat->Loc} {O:List ae} {w:World} {K:AV->List ae->Prop} {e:Env} {a:Act}
theorem kW{sb:ByteArray}{s:Nat}(h:s=1):(eO sb).length=(cf sb).length*s/\(∀u∈eO sb,u.oneCell'=true)/\fe I L O s (cf sb) (eO sb).toArray:=by
 subst h;refine⟨by simp[zN,iB],λ u hu=> ?_,λ i x hx=> ?_⟩
 ·obtain⟨c,_,rfl⟩:=List.mem_map.1 hu;rfl
 ·simp only[cf,List.getElem?_map,map_eq_some_iff]at hx;obtain⟨c,hc,rfl⟩:=hx;refine⟨rfl,λ j d hj=> ?_⟩;cases j with
  |zero=>
   simp[AV.cells]at hj;subst hj;exact⟨.int .u8 c.toNat,by simp[eO,hc],rfl,.v _ rfl⟩
  |succ j=>simp[AV.cells]at hj
theorem jD(size:Nat)(s:ByteArray)(w:World):(Builtin.firstCells size s.size (.string s)).run P w= .ok (eO s).toArray w:=by
 have hx:(s.extract 0 s.size).data=s.data:=by simp[ByteArray.extract_zero_size]
 simp[Builtin.firstCells,th,hx]
theorem mg(w:World)(t u ty e:TypeId)(i:TypeInfo)(z:Value)(ht:P.underlying t=some (.slice e))(hu:P.underlying u=some .string)(hi:P.info? e=some i)(hz:i.zero=some z)
  (s:ByteArray) (h0:0<(cf s).length) (h63:((cf s).length:Int)<=9223372036854775807) (mY:(cf s).length*i.bytes<=281474976710656):
  (Builtin.append_ #[t,u] ty #[.slice none 0 0,.string s]).run P w=
   .ok (.slice (some ⟨w.heap.size,0,none⟩) (cf s).length (grownCap w (cf s).length 0 e)) (w.drew.alloc (.cells ((eO s).toArray++Builtin.zeroCells z.cells (grownCap w (cf s).length 0 e- (cf s).length)) e)):=by
 rw[iB]at*;rw[th];exact run_append_nil_string w t u ty e i z ht hu hi hz s h0 h63 mY
theorem rA(w:World)(t u ty e:TypeId)(i:TypeInfo)(ht:P.underlying t=some (.slice e))(hu:P.underlying u=some .string)(hi:P.info? e=some i)
  {m0:Nat×Nat} {sz:Nat} (g iY pt:Nat) (cur:Array Value) (hg:w.heap[g]? =some (.cells cur e m0)) (hmk:Mk m0 cur.size sz)
  (s:ByteArray) (h1:∀u∈eO s,u.oneCell'=true)
  (j1:iY+(cf s).length<=pt) (lW:iY*i.size+(eO s).length<=cur.size):
  (Builtin.append_ #[t,u] ty #[.slice (some ⟨g,0,none⟩) iY pt,.string s]).run P w=
   .ok (.slice (some ⟨g,0,none⟩) (iY+(cf s).length) pt) (w.setRow g (cur.toList.take (iY*i.size)++eO s++cur.toList.drop (iY*i.size+(eO s).length)).toArray):=by
 have iu:=gZ (P:=P) g (iY*i.size) sz e m0 (eO s) 0 cur w hg hmk (by simpa using lW) h1;simp only[add_zero]at iu;rw[iB]at*;simp[Builtin.append_,run_underlying ht,run_underlying hu,sizeOf,typeInfo,hi,Builtin.lenOf,j1,jD,Addr.add_lit,iu]
theorem rC(w:World)(t u ty e:TypeId)(i:TypeInfo)(z:Value)(ht:P.underlying t=some (.slice e))(hu:P.underlying u=some .string)(hi:P.info? e=some i)(hz:i.zero=some z)
  (b:Addr) (iY pt:Nat) (acD:List Value) (hlo:acD.length=iY*i.size) (holds:∀j v,acD[j]? =some v->w.cell? (b.add j)=some v)
  (s:ByteArray)
  (hg:pt<iY+(cf s).length) (h63:((iY+(cf s).length:Nat):Int)<=9223372036854775807) (lW:Builtin.nextslicecap (iY+(cf s).length) pt*i.bytes<=281474976710656):
  (Builtin.append_ #[t,u] ty #[.slice (some b) iY pt,.string s]).run P w=
   .ok (.slice (some ⟨w.heap.size,0,none⟩) (iY+(cf s).length) (grownCap w (iY+(cf s).length) pt e))
    (w.drew.alloc (.cells (acD.toArray++(eO s).toArray++Builtin.zeroCells z.cells (grownCap w (iY+(cf s).length) pt e- (iY+(cf s).length))) e)):=by
 rw[iB]at*;have hn:¬(iY+s.size<=pt):=by omega
 have ar9:¬(9223372036854775807<((iY:Int)+(s.size:Int))):=by omega
 have asa:¬(281474976710656<Builtin.nextslicecap (iY+s.size) pt*i.bytes):=by omega
 have hf:=λ w=>jD (P:=P) i.size s w
 have hfo:=run_firstCells_some (P:=P) w.drew i.size iY b iY pt acD hlo (by simpa using holds);simp[Builtin.append_,run_underlying ht,run_underlying hu,sizeOf,typeInfo,zeroValue,hi,hz,Builtin.lenOf,hn,ar9,asa,Question.forced,hf,hfo,newRow,grownCap];congr 2;apply Array.ext';simp[append_assoc]
theorem lZ{t u ty el:TypeId}{i:TypeInfo}(ht:P.underlying t=some (.slice el))(hu:P.underlying u=some .string)(hi:P.info? el=some i)(b:Option Addr)(n cap:Nat)(hn:n<=cap){s:ByteArray}(hs:s.size=0)(w:World):
  (Builtin.append_ #[t,u] ty #[.slice b n cap,.string s]).run P w= .ok (.slice b n cap) w:=by
 have hf:(Builtin.firstCells i.size 0 (.string s)).run P w= .ok #[] w:=by
  have:=jD (P:=P) i.size s w;rw[hs]at this;rw[this,List.eq_nil_of_length_eq_zero (by rw[zN,hs]:(eO s).length=0)]
 cases b<;>simp[Builtin.append_,run_underlying ht,run_underlying hu,sizeOf,typeInfo,hi,Builtin.lenOf,hs,hn,hf,storeCells]
theorem amN{t u ty el:Nat}{i:TypeInfo}{z0:Value}(ht:P.underlying t=some (.slice el))(hu:P.underlying u=some .string){sb:ByteArray}(hi:P.info? el=some i)(hz:i.zero=some z0)(h0:0<i.size)(xV:z0.cells.size=i.size)
  (hinv:Inv I L O w) (h1s:i.size=1) (cr:(cf sb)≠[])
  (mY:(cf sb).length*i.bytes<=140737488355328) (jj:(cf sb).length<=maxLen):
  ∃y' I' L' w',Good I L O w I' L' (O++ [.live el i.size (cf sb)]) w'/\R I' L' (O++ [.live el i.size (cf sb)]) (.row O.length (cf sb).length) y'/\
   (Builtin.append_ #[t,u] ty #[.slice none 0 0,.string sb]).run P w= .ok y' w':=by
 obtain⟨h1,h3,h4⟩:=kW (I:=I) (L:=L) (O:=O) (sb:=sb) h1s;have tN:0<(cf sb).length:=List.length_pos_iff.2 cr;have hm:(cf sb).length<=9223372036854775807:=by simpa [maxLen]using jj
 have bJ:=mg (P:=P) w t u ty el i z0 ht hu hi hz sb tN (by omega) (by omega);have hge:=grownCap_ge w (cf sb).length 0 el;have hle:=grownCap_le_maxLen w (cf sb).length 0 el jj;generalize grownCap w (cf sb).length 0 el=cap at*;have dP:=(Good.drawn hinv (w.drawn+1));have eH:=fe.append (I:=I) (L:=L) (O:=O) (s:=i.size) (xs:=[]) (ys:=(cf sb)) (c:= #[]) (d:=(eO sb).toArray) (λ i x hx=>by simp at hx) h4 (Builtin.zeroCells z0.cells (cap- (cf sb).length)).toList [] (by simp) (by simp)
 have fw:=dP.inv.new (e:=el) (s:=i.size) (xs:=(cf sb)) ((eO sb).toArray++Builtin.zeroCells z0.cells (cap- (cf sb).length)) cap
  (by rw[Array.size_append,size_zeroCells,xV];simp only[size_toArray,h1];rw[←add_mul];congr 1;omega) hge hle h0 (by
   have:fe I L O i.size (cf sb) ((eO sb).toArray++Builtin.zeroCells z0.cells (cap- (cf sb).length)):=by simpa using fe.jE eH
   exact this)
 refine⟨_,_,_,_,dP.trans fw,?_,bJ⟩;have:=R.bV (I:=I) (L:=λ k=>if k=O.length then Loc.at w.heap.size (cap)else L k) (O:=O++ [.live el i.size (cf sb)]) O.length (cf sb).length el i.size (cf sb) (by simp) rfl;simpa using this
theorem sY(w:World)(t u ty e:TypeId)(i:TypeInfo)(z:Value)(ki:IntKind)(ht:P.underlying t=some (.slice e))(hu:P.underlying u=some (.int ki))(hi:P.info? e=some i)(hz:i.zero=some z)(h0:0<i.size)
  (k:Nat) (hk:0<k) (h63:(k:Int)<=9223372036854775807) (mY:k*i.bytes<=281474976710656):
  (Builtin.append_ #[t,u] ty #[.slice none 0 0,.int .i64 k]).run P w=
   .ok (.slice (some ⟨w.heap.size,0,none⟩) k (grownCap w k 0 e)) (w.drew.alloc (.cells (Builtin.zeroCells z.cells k++Builtin.zeroCells z.cells (grownCap w k 0 e- k)) e)):=by
 have hn:k≠0:=by omega
 have ar9:¬(9223372036854775807<(k:Int)):=by omega
 have asa:¬(281474976710656<Builtin.nextslicecap k 0*i.bytes):=by rw[nextslicecap_zero hk];omega
 have hw:IntKind.i64.wrap (k:Int)=k:=by
  simp[IntKind.wrap,IntKind.signed,IntKind.bits]
  split<;>omega
 have ayD:¬(281474976710656<(k:Int)*(i.bytes:Int)):=by
  have:((k*i.bytes:Nat):Int)<=281474976710656:=by omega
  rw[Int.natCast_mul]at this;omega
 have au:¬((k:Int)<0):=by omega
 have hs:¬(k*i.size=0):=Nat.mul_ne_zero hn (by omega);simp[Builtin.append_,run_underlying ht,run_underlying hu,sizeOf,typeInfo,zeroValue,hi,hz,asInt,asIntOf,hw,au,ayD,Builtin.firstCells,hn,hs,ar9,asa,Question.forced,newRow,grownCap]
theorem amL{t u ty el:Nat}{i:TypeInfo}{z0:Value}{z:AV}{ki:IntKind}(ht:P.underlying t=some (.slice el))(hu:P.underlying u=some (.int ki)){k:Nat}(hi:P.info? el=some i)(hz:i.zero=some z0)(hz0:ajf z0=some z)(h0:0<i.size)(xV:z0.cells.size=i.size)
  (iu:z.storable=true) (hzl:z.cells.length=i.size) (hinv:Inv I L O w) (hk:0<k) (mY:k*i.bytes<=281474976710656) (jj:k<=maxLen):
  ∃y' I' L' w',Good I L O w I' L' (O++ [.live el i.size (List.replicate k z)]) w'/\R I' L' (O++ [.live el i.size (List.replicate k z)]) (.row O.length k) y'/\
   (Builtin.append_ #[t,u] ty #[.slice none 0 0,.int .i64 k]).run P w= .ok y' w':=by
 have hm:k<=9223372036854775807:=by simpa [maxLen]using jj
 have bJ:=sY (P:=P) w t u ty el i z0 ki ht hu hi hz h0 k hk (by omega) mY;have hge:=grownCap_ge w k 0 el;have hle:=grownCap_le_maxLen w k 0 el jj;generalize grownCap w k 0 el=cap at*;have dP:=(Good.drawn hinv (w.drawn+1))
 have h4:fe I L O i.size (List.replicate k z) (Builtin.zeroCells z0.cells k):=by
  have:=fe.made (I:=I) (L:=L) (O:=O) (cap:=k) (n:=k) (eK hz0) iu hzl h0 (le_refl _);unfold Builtin.zeroCells;rw[xV]at this⊢;exact this
 have lj:(Builtin.zeroCells z0.cells k).size=k*i.size:=by rw[size_zeroCells,xV]
 have eH:=fe.append (I:=I) (L:=L) (O:=O) (s:=i.size) (xs:=[]) (ys:=List.replicate k z) (c:= #[]) (d:=Builtin.zeroCells z0.cells k) (λ i x hx=>by simp at hx) h4 (Builtin.zeroCells z0.cells (cap- k)).toList [] (by simp) (by simp)
 have fw:=dP.inv.new (e:=el) (s:=i.size) (xs:=List.replicate k z) (Builtin.zeroCells z0.cells k++Builtin.zeroCells z0.cells (cap- k)) cap
  (by rw[Array.size_append,size_zeroCells,size_zeroCells,xV,←add_mul];congr 1;omega) (by simpa using hge) hle h0 (by
   have:fe I L O i.size (List.replicate k z) (Builtin.zeroCells z0.cells k++Builtin.zeroCells z0.cells (cap- k)):=by simpa using fe.jE eH
   exact this)
 refine⟨_,_,_,_,dP.trans fw,?_,bJ⟩;have:=R.bV (I:=I) (L:=λ m=>if m=O.length then Loc.at w.heap.size (cap)else L m) (O:=O++ [.live el i.size (List.replicate k z)]) O.length k el i.size (List.replicate k z) (by simp) (by simp);simpa using this
theorem aga{t u ty el:Nat}{i:TypeInfo}{z0:Value}(ht:P.underlying t=some (.slice el))(hu:P.underlying u=some .string){sb:ByteArray}(hi:P.info? el=some i)(hz:i.zero=some z0)(h0:0<i.size)(xV:z0.cells.size=i.size)
  (hinv:Inv I L O w) {n:Nat} (hn:O[n]? =some (.nil el i.size)) (h1s:i.size=1) (cr:(cf sb)≠[])
  (mY:(cf sb).length*i.bytes<=140737488355328) (jj:(cf sb).length<=maxLen):
  ∃y' I' L' w',Good I L O w I' L' (O.set n (.live el i.size (cf sb))) w'/\R I' L' (O.set n (.live el i.size (cf sb))) (.row n (cf sb).length) y'/\
   (Builtin.append_ #[t,u] ty #[.slice none 0 0,.string sb]).run P w= .ok y' w':=by
 have lu:n<O.length:=(List.getElem?_eq_some_iff.1 hn).1;obtain⟨h1,h3,h4⟩:=kW (I:=I) (L:=L) (O:=O) (sb:=sb) h1s;have tN:0<(cf sb).length:=List.length_pos_iff.2 cr;have hm:(cf sb).length<=9223372036854775807:=by simpa [maxLen]using jj
 have bJ:=mg (P:=P) w t u ty el i z0 ht hu hi hz sb tN (by omega) (by omega);have hge:=grownCap_ge w (cf sb).length 0 el;have hle:=grownCap_le_maxLen w (cf sb).length 0 el jj;generalize grownCap w (cf sb).length 0 el=cap at*;have dP:=(Good.drawn hinv (w.drawn+1));have eH:=fe.append (I:=I) (L:=L) (O:=O) (s:=i.size) (xs:=[]) (ys:=(cf sb)) (c:= #[]) (d:=(eO sb).toArray) (λ i x hx=>by simp at hx) h4 (Builtin.zeroCells z0.cells (cap- (cf sb).length)).toList [] (by simp) (by simp)
 have fw:=dP.inv.put (n:=n) (l:=Loc.at w.heap.size (cap)) (e:=el) (s:=i.size) (xs:=(cf sb)) (O':=O.set n (.live el i.size (cf sb)))
  (w':=w.drew.alloc (.cells ((eO sb).toArray++Builtin.zeroCells z0.cells (cap- (cf sb).length)) el))
  (kq lu _) (by simp) (λ b' jr _=>heap_alloc_old w.drew _ b' jr) rfl rfl rfl (by rw[World.size_alloc];exact le_succ _) (.inl (le_refl _))
  ⟨_,⟨_,heap_alloc_new w.drew _,.inl rfl⟩,by rw[Array.size_append,size_zeroCells,xV];simp only[size_toArray,h1];rw[←add_mul];congr 1;omega,hge,hle,h0,by
    have:fe I L O i.size (cf sb) ((eO sb).toArray++Builtin.zeroCells z0.cells (cap- (cf sb).length)):=by simpa using fe.jE eH
    exact this⟩
  (λ _=> .inr ⟨hn,cr⟩)
 refine⟨_,_,_,_,dP.trans fw,?_,bJ⟩;have:=R.bV (I:=I) (L:=λ k=>if k=n then Loc.at w.heap.size (cap)else L k) (O:=O.set n (.live el i.size (cf sb))) n (cf sb).length el i.size (cf sb) (by simp[lu]) rfl;simpa using this
theorem ajb{t u ty el:Nat}{i:TypeInfo}(ht:P.underlying t=some (.slice el))(hu:P.underlying u=some .string){sb:ByteArray}(hi:P.info? el=some i)
  (hinv:Inv I L O w) {n:Nat} {xs:List AV} (h1s:i.size=1) (hn:O[n]? =some (.live el i.size xs))
  (j1:xs.length+(cf sb).length<=(L n).cap):
  ∃y' I' L' w',Good I L O w I' L' (O.set n (.live el i.size (xs++(cf sb)))) w'/\R I' L' (O.set n (.live el i.size (xs++(cf sb)))) (.row n (xs.length+(cf sb).length)) y'/\
   (Builtin.append_ #[t,u] ty #[.slice (some ⟨(L n).bc,0,none⟩) xs.length (L n).cap,.string sb]).run P w= .ok y' w':=by
 obtain⟨h1,h3,h4⟩:=kW (I:=I) (L:=L) (O:=O) (sb:=sb) h1s;obtain⟨cur,⟨j5,g1,dn⟩,g2,g3,g4,g5,g6⟩:=hinv.obj n _ _ xs hn;have lu:n<O.length:=(List.getElem?_eq_some_iff.1 hn).1;have hmul:xs.length*i.size+(cf sb).length*i.size<=(L n).cap*i.size:=by rw[←add_mul];exact mul_le_mul_right _ j1
 have lW:xs.length*i.size+(eO sb).length<=cur.size:=by
  rw[h1,g2];exact hmul
 have bJ:=rA (P:=P) w t u ty el i ht hu hi (L n).bc xs.length (L n).cap cur g1 dn sb h3 j1 lW
 have eH:=fe.append (I:=I) (L:=L) (O:=O) (s:=i.size) (xs:=xs) (ys:=(cf sb)) (c:=cur) (d:=(eO sb).toArray) g6 h4 (cur.toList.drop (xs.length*i.size+(eO sb).length)) (cur.toList.take (xs.length*i.size))
  (by simp only[length_take,Array.length_toList];omega) (λ k hk=>by rw[getElem?_take,if_pos hk,Array.getElem?_toList])
 have dP:=hinv.put (n:=n) (l:=L n) (e:=el) (s:=i.size) (xs:=xs++(cf sb)) (O':=O.set n (.live el i.size (xs++(cf sb)))) (w':=w.setRow (L n).bc (cur.toList.take (xs.length*i.size)++eO sb++cur.toList.drop (xs.length*i.size+(eO sb).length)).toArray)
  (kq lu _) (by simp) (λ b' _ jr=>setRow_other w _ _ _ jr) rfl rfl rfl (by simp) (.inr ⟨_,_,_,hn,rfl⟩)
  ⟨_,⟨_,setRow_heap w _ cur _ _ _ g1,dn.size (by simp only[size_toArray,length_append,length_take,length_drop,Array.length_toList];omega)⟩,by simp only[size_toArray,length_append,length_take,length_drop,Array.length_toList];omega,by simpa using j1,g4,g5,eH⟩
  (λ _=> .inl ⟨xs,hn,by simp,λ _=>rfl⟩)
 refine⟨_,_,_,_,dP,?_,bJ⟩;have:=R.bV (I:=I) (L:=λ k=>if k=n then L n else L k) (O:=O.set n (.live el i.size (xs++(cf sb)))) n (xs.length+(cf sb).length) el i.size (xs++(cf sb)) (by simp[lu]) (by simp);simpa using this
theorem ajc{t u ty el:Nat}{i:TypeInfo}{z0:Value}(ht:P.underlying t=some (.slice el))(hu:P.underlying u=some .string){sb:ByteArray}(hi:P.info? el=some i)(hz:i.zero=some z0)(xV:z0.cells.size=i.size)
  (hinv:Inv I L O w) {n:Nat} {xs:List AV} (h1s:i.size=1) (hn:O[n]? =some (.live el i.size xs)) (cr:(cf sb)≠[])
  (mY:(xs.length+(cf sb).length)*i.bytes<=140737488355328) (jj:xs.length+(cf sb).length<=maxLen) (j1:(L n).cap<xs.length+(cf sb).length):
  ∃y' I' L' w',Good I L O w I' L' (O.set n (.live el i.size (xs++(cf sb)))) w'/\R I' L' (O.set n (.live el i.size (xs++(cf sb)))) (.row n (xs.length+(cf sb).length)) y'/\
   (Builtin.append_ #[t,u] ty #[.slice (some ⟨(L n).bc,0,none⟩) xs.length (L n).cap,.string sb]).run P w= .ok y' w':=by
 obtain⟨h1,h3,h4⟩:=kW (I:=I) (L:=L) (O:=O) (sb:=sb) h1s;obtain⟨cur,⟨j5,g1,dn⟩,g2,g3,g4,g5,g6⟩:=hinv.obj n _ _ xs hn;have lu:n<O.length:=(List.getElem?_eq_some_iff.1 hn).1;have hm:xs.length+(cf sb).length<=9223372036854775807:=by simpa [maxLen]using jj
 have tN:0<(cf sb).length:=List.length_pos_iff.2 cr
 have holds:(cur.toList.take (xs.length*i.size)).length=xs.length*i.size:=by
  simp only[length_take,Array.length_toList,g2];exact min_eq_left (mul_le_mul_right _ g3)
 have bJ:=rC (P:=P) w t u ty el i z0 ht hu hi hz ⟨(L n).bc,0,none⟩ xs.length (L n).cap (cur.toList.take (xs.length*i.size)) holds (λ j v hv=>by
  rw[add_lit,zero_add,dV g1];rw[getElem?_take]at hv
  split at hv
  ·simpa using hv
  ·cases hv) sb (by omega) (by omega) (growslice_fits (by omega) mY)
 have hge:=grownCap_ge w (xs.length+(cf sb).length) (L n).cap el;have hle:=grownCap_le_maxLen w (xs.length+(cf sb).length) (L n).cap el jj;generalize grownCap w (xs.length+(cf sb).length) (L n).cap el=cap at*
 have eH:=fe.append (I:=I) (L:=L) (O:=O) (s:=i.size) (xs:=xs) (ys:=(cf sb)) (c:=cur) (d:=(eO sb).toArray) g6 h4 (Builtin.zeroCells z0.cells (cap- (xs.length+(cf sb).length))).toList (cur.toList.take (xs.length*i.size))
  holds (λ k hk=>by rw[getElem?_take,if_pos hk,Array.getElem?_toList])
 have x4:=(Good.drawn hinv (w.drawn+1))
 have dP:=x4.inv.put (n:=n) (l:=Loc.at w.heap.size (cap)) (e:=el) (s:=i.size) (xs:=xs++(cf sb)) (O':=O.set n (.live el i.size (xs++(cf sb))))
  (w':=w.drew.alloc (.cells ((cur.toList.take (xs.length*i.size)).toArray++(eO sb).toArray++Builtin.zeroCells z0.cells (cap- (xs.length+(cf sb).length))) el))
  (kq lu _) (by simp) (λ b' jr _=>heap_alloc_old w.drew _ b' jr) rfl rfl rfl (by rw[World.size_alloc];exact le_succ _) (.inl (le_refl _))
  ⟨_,⟨_,heap_alloc_new w.drew _,.inl rfl⟩,by
     simp only[Array.size_append,size_zeroCells,xV,size_toArray,holds,h1];rw[←add_mul,←add_mul];congr 1;omega,by simpa using hge,hle,g5,fe.jE eH⟩
  (λ _=> .inl ⟨xs,hn,by simp,λ he=>by simp at he;exact(cr he).elim⟩)
 refine⟨_,_,_,_,x4.trans dP,?_,bJ⟩;have:=R.bV (I:=I) (L:=λ k=>if k=n then Loc.at w.heap.size (cap)else L k) (O:=O.set n (.live el i.size (xs++(cf sb)))) n (xs.length+(cf sb).length) el i.size (xs++(cf sb)) (by simp[lu]) (by simp);simpa using this
theorem amM{t u ty el s by_:Nat}{z:AV}(ht:P.underlying t=some (.slice el))(hu:P.underlying u=some .string)(kJ:ld P el=some (s,by_,z)){x:AV}{vx:Value}{sb:ByteArray}
  (hinv:Inv I L O w) (hx:R I L O x vx) (yI:s=1) (hk:gY O x el s by_ (cf sb) K):
  ∃x' O' y' I' L' w',K x' O'/\Good I L O w I' L' O' w'/\R I' L' O' x' y'/\(Builtin.append_ #[t,u] ty #[vx,.string sb]).run P w= .ok y' w':=by
 obtain⟨i,z0,hi,hz,hz0,lj,hby,hzl,h0,xV,iu⟩:=eV kJ;subst lj;subst hby;have alC:cf sb= []->sb.size=0:=λ h=>by have:=iB sb;rw[h]at this;simpa using this.symm
 cases x
 case aQ=>
  obtain⟨mY,jj,hk0,qY⟩:=hk;cases hx;by_cases cr:cf sb= []
  ·exact⟨_,O,_,I,L,w,hk0 cr,.refl hinv,.aQ,lZ ht hu hi none 0 0 (le_refl _) (alC cr) w⟩
  ·obtain⟨y',I',L',w',q1,q2,q3⟩:=amN ht hu hi hz h0 xV hinv yI cr mY jj;exact⟨_,_,y',I',L',w',qY cr,q1,q2,q3⟩
 case row n len=>
  cases hn:O[n]? with
  |none=>simp only[gY,hn]at hk
  |some ob=>
   cases ob with
   |dead=>simp only[gY,hn]at hk
   |own a=>simp only[gY,hn]at hk
   |cN g=>simp only[gY,hn]at hk
   |nil t' s'=>
    simp only[gY,hn]at hk;obtain⟨rfl,rfl,rfl,mY,jj,hk0,qY⟩:=hk;obtain⟨rfl,_⟩:=hx.lz hn;by_cases cr:cf sb= []
    ·exact⟨_,O,_,I,L,w,hk0 cr,.refl hinv,.eb n _ _ hn,lZ ht hu hi none 0 0 (le_refl _) (alC cr) w⟩
    ·obtain⟨y',I',L',w',q1,q2,q3⟩:=aga ht hu hi hz h0 xV hinv hn yI cr mY jj;exact⟨_,_,y',I',L',w',qY cr,q1,q2,q3⟩
   |live t' s' xs=>
    simp only[gY,hn]at hk;obtain⟨rfl,rfl,hlen,mY,jj,hk⟩:=hk;have hv:=hx.e9 hn hlen;subst hv;subst hlen;have lu:n<O.length:=(List.getElem?_eq_some_iff.1 hn).1;by_cases cr:cf sb= []
    ·obtain⟨cur,⟨j5,g1,dn⟩,g2,g3,g4,g5,g6⟩:=hinv.obj n _ _ xs hn
     have hO:O.set n (.live t' i.size (xs++cf sb))=O:=by
      rw[cr,append_nil];apply ext_getElem?;intro k;rw[kq lu];split
      ·rename_i hk';rw[hk',hn]
      ·rfl
     rw[hO,cr]at hk;exact⟨_,O,_,I,L,w,hk,.refl hinv,by simpa using hx,lZ ht hu hi _ xs.length _ g3 (alC cr) w⟩
    ·by_cases j1:xs.length+(cf sb).length<=(L n).cap
     ·obtain⟨y',I',L',w',q1,q2,q3⟩:=ajb ht hu hi hinv yI hn j1;exact⟨_,_,y',I',L',w',hk,q1,q2,q3⟩
     ·obtain⟨y',I',L',w',q1,q2,q3⟩:=ajc ht hu hi hz xV hinv yI hn cr mY jj (by omega);exact⟨_,_,y',I',L',w',hk,q1,q2,q3⟩
 all_goals exact hk.elim
theorem anI(hi:Inv I L O w){ty s t el:TypeId}{pos:String}{af:Array Edge}{g:Option (Nat×Bool)}{d:Option Tmp}(hs:P.underlying s=some .string)(ht:P.underlying t=some (.slice el))(hu:y3 P el=true)(he:∀t,R I L O (e t) (a.tmps.getD t undef)){x:Operand}{ax:aE}(hx:bC x=some ax)(hk:wpOp P (.s2b el ax) e O K):
  fx P I L O w (execOp a.eval ⟨d,.convert s t x,ty,pos,af,g⟩) K:=by
 have he8:P.underlying el=some (.int .u8):=by
  unfold y3 at hu
  split at hu
  ·assumption
  ·cases hu
 have rx:=an hx he;simp only[wpOp]at hk
 split at hk
 ·rename_i sb hsb;rw[hsb]at rx;have hv:=rx.exact;obtain⟨jj,hk⟩:=hk;have bJ:=run_bytes_of_string (P:=P) w s t el sb hs ht he8;have hge:=grownCap_ge w sb.size 0 el;have hle:=grownCap_le_maxLen w sb.size 0 el jj;generalize grownCap w sb.size 0 el=cap at*;obtain⟨h1,h3,h4⟩:=kW (I:=I) (L:=L) (O:=O) (sb:=sb) (s:=1) rfl;have dP:=(Good.drawn hi (w.drawn+1))
  have lj:(bytesRow sb cap).size=cap*1:=by
   have:sb.data.size=sb.size:=rfl;simp[bytesRow];omega
  have eH:fe I L O 1 (cf sb) (bytesRow sb cap):=by
   intro i y hy;obtain⟨q1,q2⟩:=h4 i y hy;refine⟨q1,λ j b hj=> ?_⟩;obtain⟨u,hu1,hu2,hu3⟩:=q2 j b hj;refine⟨u,?_,hu2,hu3⟩;unfold bytesRow;rw[Array.getElem?_append];have au:=(Array.getElem?_eq_some_iff.1 hu1).1;rw[th]at au hu1;rw[if_pos au];exact hu1
  have hlen:(cf sb).length=sb.size:=iB sb;have fw:=dP.inv.auv (e:=el) (s:=1) (xs:=cf sb) (bytesRow sb cap) cap (m:=((bytesRow sb cap).size,(bytesRow sb cap).size+1)) (.inr ⟨rfl,rfl⟩) lj (by omega) hle (by omega) eH;refine⟨_,_,_,_,_,_,hk,dP.trans fw,?_,.inl (by simp only[execOp,hv];rw[Sem.run_bind,bJ];rfl)⟩;have:=R.bV (I:=I) (L:=λ k=>if k=O.length then Loc.at w.heap.size (cap)else L k) (O:=O++ [.live el 1 (cf sb)]) O.length (cf sb).length el 1 (cf sb) (by simp) rfl;rw[hlen]at this;rw[if_pos rfl]at this;exact this
 ·exact hk.elim
theorem ahF(hi:Inv I L O w){ty t el:TypeId}{pos:String}{af:Array Edge}{g:Option (Nat×Bool)}{d:Option Tmp}(ht:P.underlying t=some (.slice el))(hu:y3 P el=true)(he:∀t,R I L O (e t) (a.tmps.getD t undef)){x:Operand}{ax:aE}(hx:bC x=some ax)(hk:wpOp P (.xu el ax) e O K):
  fx P I L O w (execOp a.eval ⟨d,.convert t t x,ty,pos,af,g⟩) K:=by
 have he8:P.underlying el=some (.int .u8):=by
  unfold y3 at hu
  split at hu
  ·assumption
  ·cases hu
 have rx:=an hx he;simp only[wpOp]at hk
 split at hk
 ·rename_i n len hn
  split at hk
  ·rename_i t' s xs hO;obtain⟨rfl,rfl,rfl,hk⟩:=hk;rw[hn]at rx;have hv:=rx.e9 hO rfl;obtain⟨c,⟨j5,g1,dn⟩,g2,g3,g4,g5,g6⟩:=hi.obj n _ _ xs hO;have au:=(Array.getElem?_eq_some_iff.1 g1).1;have lu:=(List.getElem?_eq_some_iff.1 hO).1;have arO:w.shape? (L n).bc=some (t',c.size):=by unfold World.shape?;rw[g1]
   have alH:(w.freeze ⟨(L n).bc,c.size,none⟩ 1).heap=w.heap.setIfInBounds (L n).bc (.cells c t' (c.size,c.size+1)):=by
    unfold World.freeze;rw[if_neg (by decide)];apply Array.ext_getElem?;intro i;simp only[Array.getElem?_modify,Array.getElem?_setIfInBounds];by_cases h:(L n).bc=i
    ·subst h;rw[if_pos rfl,if_pos rfl,if_pos au,g1];simp only[map_some];rcases dn with rfl|⟨rfl,_⟩
     ·simp
     ·simp
    ·rw[if_neg h,if_neg h]
   have dP:=hi.put (n:=n) (l:=L n) (e:=t') (s:=1) (xs:=xs) (O':=O) (w':=w.freeze ⟨(L n).bc,c.size,none⟩ 1)
    (λ k=>by by_cases h:k=n
             ·subst h;rw[if_pos rfl,hO]
             ·rw[if_neg h]) (le_refl _) (λ b hb cr=>by rw[alH];simp[Ne.symm cr]) (by unfold World.freeze;rw[if_neg (by decide)]) (by unfold World.freeze;rw[if_neg (by decide)]) (by unfold World.freeze;rw[if_neg (by decide)]) (by rw[alH];simp) (.inr ⟨_,_,_,hO,rfl⟩)
    ⟨c,⟨_,by rw[alH];simp[au],.inr ⟨rfl,rfl⟩⟩,g2,g3,g4,g5,g6⟩ (λ _=> .inl ⟨xs,hO,le_refl _,λ _=>rfl⟩)
   have hL:(λ k=>if k=n then L n else L k)=L:=by
    funext k
    by_cases h:k=n
    ·subst h;rw[if_pos rfl]
    ·rw[if_neg h]
   rw[hL]at dP
   have bJ:(convert t t (.slice (some ⟨(L n).bc,0,none⟩) xs.length (L n).cap)).run P w= .ok (.slice (some ⟨(L n).bc,0,none⟩) xs.length (L n).cap) (w.freeze ⟨(L n).bc,c.size,none⟩ 1):=by
    simp[convert,run_underlying ht,run_underlying he8,markStringish,arO]
   refine⟨_,_,_,_,_,_,hk,dP,?_,.inl (by simp only[execOp,hv];rw[Sem.run_bind,bJ];rfl)⟩;exact R.bV (I:=I) (L:=L) (O:=O) n xs.length t' 1 xs hO rfl
  ·exact hk.elim
 ·exact hk.elim
end
end Go.Ab
namespace Go.Ab
section
variable {P:Program} {I:da} {L:Nat->Loc} {O:List ae} {w:World} {K:AV->List ae->Prop} {e:Env} {a:Act}
variable {d:Option Tmp} {ty:TypeId} {pos:String} {af:Array Edge} {g:Option (Nat×Bool)} {ao:dZ}
theorem anJ(hi:Inv I L O w)(he:∀t,R I L O (e t) (a.tmps.getD t undef)){x:Operand}(hc:bR P ty (.move x)=some ao)(hk:wpOp P ao e O K):
  fx P I L O w (execOp a.eval ⟨d,.move x,ty,pos,af,g⟩) K:=by
 simp only[bR,bind_eq_bind,bind_eq_some_iff,Option.some.injEq]at hc;obtain⟨ax,hx,rfl⟩:=hc;exact fx.same hi hk (an hx he) rfl
theorem aeQ(hi:Inv I L O w)(he:∀t,R I L O (e t) (a.tmps.getD t undef)){x:Operand}(hc:bR P ty (.assign x)=some ao)(hk:wpOp P ao e O K):
  fx P I L O w (execOp a.eval ⟨d,.assign x,ty,pos,af,g⟩) K:=by
 simp only[bR,bind_eq_bind,bind_eq_some_iff,Option.some.injEq]at hc;obtain⟨ax,hx,rfl⟩:=hc;exact fx.same hi hk (an hx he) rfl
theorem aj4(hi:Inv I L O w)(he:∀t,R I L O (e t) (a.tmps.getD t undef)){x y z:Operand}(hc:bR P ty (.pick x y z)=some ao)(hk:wpOp P ao e O K):
  fx P I L O w (execOp a.eval ⟨d,.pick x y z,ty,pos,af,g⟩) K:=by
 simp only[bR,bind_eq_bind,bind_eq_some_iff,Option.some.injEq]at hc;obtain⟨ax,hx,ay,hy,az,hz,rfl⟩:=hc;have rx:=an hx he;simp only[wpOp]at hk
 split at hk
 ·rename_i t ht;rw[ht]at rx;have:=rx.bool;refine fx.same hi hk (y:=if t=true then a.eval y else a.eval z) ?_ ?_
  ·cases t
   ·simpa using an hz he
   ·simpa using an hy he
  ·simp[execOp,this,asBool]
 ·exact hk.elim
theorem ahK(hi:Inv I L O w){t:TypeId}(hc:bR P ty (.alloc t)=some ao)(hk:wpOp P ao e O K):
  fx P I L O w (execOp a.eval ⟨d,.alloc t,ty,pos,af,g⟩) K:=by
 simp only[bR,bind_eq_bind,bind_eq_some_iff,Option.some.injEq]at hc;obtain⟨⟨s,b,z⟩,hz,rfl⟩:=hc;obtain⟨i,z0,h1,h2,h3,rfl,rfl,h4,h5,h6,h7⟩:=eV hz;obtain⟨q1,q2⟩:=hi.box t (eK (I:=I) (L:=L) (O:=O) h3) h7 h4 h5;exact⟨_,_,_,_,_,_,hk,q1,q2,.inl (by simp[execOp,Instr.alloc,zeroValue,typeInfo,h1,h2,newVar,newRow])⟩
theorem anO(hi:Inv I L O w)(he:∀t,R I L O (e t) (a.tmps.getD t undef)){t:TypeId}{x:Operand}(hc:bR P ty (.box t x)=some ao)(hk:wpOp P ao e O K):
  fx P I L O w (execOp a.eval ⟨d,.box t x,ty,pos,af,g⟩) K:=by
 simp only[bR,bind_eq_bind,bind_eq_some_iff]at hc;obtain⟨i,ej,hc⟩:=hc
 split at hc
 ·rename_i hs;simp only[bind_eq_some_iff,Option.some.injEq]at hc;obtain⟨ax,hx,rfl⟩:=hc;obtain⟨h1,h2,h3⟩:=hk;obtain⟨q1,q2⟩:=hi.box t (an hx he) h2 h1 hs;exact⟨_,_,_,_,_,_,h3,q1,q2,.inl (by simp[execOp,Instr.box,newVar,newRow])⟩
 ·cases hc
theorem aj9(hi:Inv I L O w)(he:∀t,R I L O (e t) (a.tmps.getD t undef)){t:TypeId}{x:Operand}(hc:bR P ty (.load t x)=some ao)(hk:wpOp P ao e O K):
  fx P I L O w (execOp a.eval ⟨d,.load t x,ty,pos,af,g⟩) K:=by
 simp only[bR,bind_eq_bind,bind_eq_some_iff,Option.some.injEq]at hc;obtain⟨n,hn,ax,hx,rfl⟩:=hc;have rx:=an hx he;simp only[wpOp]at hk;generalize ax.ev e=A at rx hk;generalize hX:a.eval x=X at rx;cases A
 case bW y f=>
  obtain⟨h1,h2⟩:=hk;cases rx with
  |bW _ _ bc base bB hv hr=>
   have dc:∀j,j<n.getD 1->∃c,y.cells[f+j]? =some c:=λ j hj=>⟨y.cells[f+j]'(by omega),by simp⟩
   have bJ:=ql (P:=P) (t:=t) hn bc (base+f) (λ j=>bB (f+j)) w (λ j hj=>by
    obtain⟨c,hc⟩:=dc j hj;rw[add_assoc];exact hi.iy _ _ _ (hv _ c hc).1)
   refine fx.same hi h2 (lF (bB:=λ j=>bB (f+j)) h1 λ j c hj au=>hr _ c hj) ?_;simp only[execOp,hX];simp[bJ]
 case ptr k len i f=>
  cases hO:O[k]? with
  |none=>simp only[hO]at hk
  |some ob=>
   cases ob with
   |dead=>simp only[hO]at hk
   |own a=>simp only[hO]at hk
   |cN g=>simp only[hO]at hk
   |nil t' s'=>simp only[hO]at hk
   |live t' s xs=>
    simp only[hO]at hk;obtain⟨hl,au,hf,hk⟩:=hk;have:=rx.gP hO hl;subst this;obtain⟨c,⟨j5,g1,dn⟩,g2,g3,g4,g5,g6⟩:=hi.obj k _ _ xs hO;have yH:xs[i]? =some (xs.getD i .top):=by simp[List.getD,show i<xs.length by omega]
    obtain⟨g7,g8⟩:=g6 i _ yH;generalize xs.getD i .top=y at*
    have hex:∀j,∃u,j<n.getD 1->c[i*s+(f+j)]? =some u/\∀c',y.cells[f+j]? =some c'->R I L O c' u:=by
     intro j;by_cases hj:j<n.getD 1
     ·have oI:y.cells[f+j]? =some (y.cells[f+j]'(by omega)):=by simp
      obtain⟨u,hu,_,hr⟩:=g8 (f+j) _ oI;exact⟨u,λ _=>⟨hu,λ c'' h''=>by rw[oI]at h'';cases h'';exact hr⟩⟩
     ·exact⟨undef,λ h=>(hj h).elim⟩
    let bB:Nat->Value:=λ j=>(hex j).choose
    have adg:∀j,j<n.getD 1->c[i*s+(f+j)]? =some (bB j)/\∀c',y.cells[f+j]? =some c'->R I L O c' (bB j):=λ j hj=>(hex j).choose_spec hj
    have bJ:=ql (P:=P) (t:=t) hn (L k).bc (i*s+f) bB w (λ j hj=>by
     rw[dV g1,add_assoc];exact(adg j hj).1)
    refine fx.same hi hk (lF (bB:=bB) hf λ j c' hj gV=>(adg j gV).2 c' hj) ?_;simp only[execOp,hX];simp[bJ]
 all_goals exact hk.elim
theorem zm{x y:AV}{f:Nat}(hf:f+y.cells.length<=x.cells.length)(j:Nat):
  (lN x f y).cells.length=x.cells.length/\(lN x f y).cells[j]? =if f<=j/\j<f+y.cells.length then y.cells[j- f]? else x.cells[j]? :=by
 unfold lN
 split
 ·rename_i h;obtain⟨rfl,hl⟩:=h;refine⟨hl,?_⟩
  split
  ·simp
  ·rename_i hn;rw[getElem?_eq_none (by omega),getElem?_eq_none (by omega)]
 ·generalize pO:x.cells=xs at*;generalize hys:y.cells=ys at*
  show(xs.take f++ys++xs.drop (f+ys.length)).length=xs.length/\(xs.take f++ys++xs.drop (f+ys.length))[j]? =_;refine⟨by simp;omega,?_⟩
  split
  ·rename_i h;rw[append_assoc,getElem?_append_right (by simp;omega),getElem?_append_left (by simp;omega)];congr 1;simp;omega
  ·rename_i h;by_cases au:j<f
   ·rw[append_assoc,getElem?_append_left (by simp;omega),getElem?_take,if_pos au]
   ·rw[getElem?_append_right (by simp;omega),getElem?_drop];congr 1;simp;omega
theorem ahB(hi:Inv I L O w)(he:∀t,R I L O (e t) (a.tmps.getD t undef)){t:TypeId}{x y:Operand}(hc:bR P ty (.store t x y)=some ao)(hk:wpOp P ao e O K):
  fx P I L O w (execOp a.eval ⟨d,.store t x y,ty,pos,af,g⟩) K:=by
 simp only[bR,bind_eq_bind,bind_eq_some_iff,Option.some.injEq]at hc;obtain⟨inf,sj,ax,hx,ay,hy,rfl⟩:=hc;have rx:=an hx he;have ry:=an hy he;simp only[wpOp]at hk;generalize ax.ev e=A at rx hk;generalize ay.ev e=B at ry hk;generalize hX:a.eval x=X at rx;generalize hY:a.eval y=Y at ry;cases A
 case ptr k len i f=>
  cases hO:O[k]? with
  |none=>simp only[hO]at hk
  |some ob=>
   cases ob with
   |dead=>simp only[hO]at hk
   |own a=>simp only[hO]at hk
   |cN g=>simp only[hO]at hk
   |nil t' s'=>simp only[hO]at hk
   |live t' s xs=>
    simp only[hO]at hk;obtain⟨hl,au,hm,iu,hf,hk⟩:=hk;have:=rx.gP hO hl;subst this;obtain⟨c,⟨j5,g1,dn⟩,g2,g3,g4,g5,g6⟩:=hi.obj k _ _ xs hO;have axZ:k<O.length:=(List.getElem?_eq_some_iff.1 hO).1;have yH:xs[i]? =some (xs.getD i .top):=by simp[List.getD,show i<xs.length by omega]
    obtain⟨g7,g8⟩:=g6 i _ yH;obtain⟨r1,r2⟩:=ry.oQ iu;have xW:=ry.asR iu;have hYl:Y.cells.toList.length=B.cells.length:=by simp[r1]
    have eH:=abt (s:=s) (show i<xs.length by omega) (show s- 1<s by omega);have avE:xs.length*s<=c.size:=by rw[g2];exact mul_le_mul_right _ g3
    have lW:i*s+f+0+Y.cells.toList.length<=c.size:=by omega
    have bJ:=gZ (P:=P) (L k).bc (i*s+f) s t' j5 Y.cells.toList 0 c w g1 dn lW xW
    have hc2:∀j:Nat,((c.toList.take (i*s+f+0)++Y.cells.toList++c.toList.drop (i*s+f+0+Y.cells.toList.length)).toArray)[j]? =if i*s+f<=j/\j<i*s+f+B.cells.length then Y.cells[j- (i*s+f)]? else c[j]? :=by
     intro j;simp only[getElem?_toArray,add_zero]
     split
     ·rename_i h;rw[append_assoc,getElem?_append_right (by simp;omega),getElem?_append_left (by simp;omega),Array.getElem?_toList];congr 1;simp;omega
     ·rename_i h;by_cases gV:j<i*s+f
      ·rw[append_assoc,getElem?_append_left (by simp;omega),getElem?_take,if_pos gV,Array.getElem?_toList]
      ·rw[getElem?_append_right (by simp;omega),getElem?_drop,Array.getElem?_toList];congr 1;simp;omega
    generalize hC2:(c.toList.take (i*s+f+0)++Y.cells.toList++c.toList.drop (i*s+f+0+Y.cells.toList.length)).toArray=c2 at*;have avF:c2.size=c.size:=by rw[←hC2];simp;omega
    have dP:=hi.put (n:=k) (l:=L k) (e:=t') (s:=s) (xs:=xs.set i (lN (xs.getD i .top) f B)) (O':=O.set k (.live t' s (xs.set i (lN (xs.getD i .top) f B)))) (w':=w.setRow (L k).bc c2)
     (kq axZ _) (by simp) (λ b' _ jr=>setRow_other w _ _ _ jr) rfl rfl rfl (by simp) (.inr ⟨_,_,_,hO,rfl⟩)
     ⟨c2,⟨_,setRow_heap w _ c _ _ _ g1,dn.size avF⟩,by rw[avF,g2],by simpa using g3,g4,g5,by
      intro i' z hz;rw[List.getElem?_set]at hz;by_cases hii:i=i'
      ·subst hii;rw[if_pos rfl,if_pos (by omega)]at hz;cases hz;refine⟨by rw[(zm (by omega) 0).1,g7],λ j q hj=> ?_⟩;rw[(zm (by omega) j).2]at hj;by_cases hj':f<=j/\j<f+B.cells.length
       ·rw[if_pos hj']at hj;obtain⟨u,hu,ho,hr⟩:=r2 _ q hj;refine⟨u,?_,ho,hr⟩;rw[hc2,if_pos (by omega),←hu];congr 1;omega
       ·rw[if_neg hj']at hj;obtain⟨u,hu,ho,hr⟩:=g8 j q hj;refine⟨u,?_,ho,hr⟩;rw[hc2,if_neg (by omega),hu]
      ·rw[if_neg hii]at hz;obtain⟨q1,q2⟩:=g6 i' z hz;refine⟨q1,λ j q hj=> ?_⟩;obtain⟨u,hu,ho,hr⟩:=q2 j q hj;have hjs:j<s:=by rw[←q1];exact(List.getElem?_eq_some_iff.1 hj).1
       refine⟨u,?_,ho,hr⟩;have cr:=ale (i:=i') (i':=i) hjs (λ h=>hii h.symm);rw[hc2,if_neg (by omega),hu]⟩
     (λ _=> .inl ⟨xs,hO,by simp,λ _=>rfl⟩)
    refine⟨_,_,undef,_,_,_,hk,dP,.top _,.inr ⟨?_,rfl⟩⟩;have lj:Y.cells.size=inf.size:=by omega
    simp only[execOp,hX,hY];simp[Instr.storeAt,Instr.sureAddr,storeVar,sizeOf,typeInfo,sj,lj,bJ]
 all_goals exact hk.elim
end
end Go.Ab
namespace Go.Ab
theorem Inv.w7{I:da}{L:Nat->Loc}{O O':List ae}{w w':World}{n:Nat}{l:Loc}{g:fT}(h:Inv I L O w)
  (hO:∀k:Nat,O'[k]? =if k=n then some (.cN g)else O[k]?) (hlen:O.length<=O'.length)
  (hw:∀b,b<w.heap.size->b≠l.bc->w'.heap[b]? =w.heap[b]?)
  (hos:w'.os=w.os) (alj:w'.tape=w.tape) (arR:w'.output=w.output) (aln:w.heap.size<=w'.heap.size)
  (hl:(O.length<=n/\w.heap.size<=l.bc)∨∃g0,O[n]? =some (.cN g0)/\g0.kY=g.kY/\l.bc=(L n).bc)
  (uM:Ext I L O I (λ k=>if k=n then l else L k) O'->pU I (λ k=>if k=n then l else L k) O' w' l g):
  Good I L O w I (λ k=>if k=n then l else L k) O' w':=by
 have dp:Ext I L O I (λ k=>if k=n then l else L k) O':=by
  refine⟨λ _ _ _ h=>h,hlen,λ k hk e' s' hZ hx=> ?_,λ k hk e' s' hx=> ?_,λ k hk a hx=> ?_,λ k hk a hx=> ?_⟩
  ·rw[hO]at hx;by_cases eD:k=n
   ·rw[if_pos eD]at hx;cases hx
   ·rw[if_neg eD]at hx;exact .inl ⟨hZ,hx,le_refl _,λ _=>by simp[eD]⟩
  ·rw[hO]at hx;by_cases eD:k=n
   ·rw[if_pos eD]at hx;cases hx
   ·rwa [if_neg eD]at hx
  ·rw[hO]at hx;by_cases eD:k=n
   ·rw[if_pos eD]at hx;cases hx
   ·rw[if_neg eD]at hx;exact⟨⟨a,hx⟩,by simp only[if_neg eD]⟩
  ·rw[hO]at hx;by_cases eD:k=n
   ·subst eD;rw[if_pos rfl]at hx;cases hx;rcases hl with⟨h1,_⟩|⟨g0,h1,h2,h3⟩
    ·omega
    ·exact⟨⟨g0,h1,h2⟩,by simp only[if_true];exact h3⟩
   ·rw[if_neg eD]at hx;exact⟨⟨a,hx,rfl⟩,by simp only[if_neg eD]⟩
 have gf:∀b,(b<w.heap.size/\∃c e z,w.heap[b]? =some (.cells c e z))->w'.heap[b]? =w.heap[b]? :=by
  rintro b ⟨hb,c,e,z,hc⟩;refine hw b hb λ he=> ?_
  rcases hl with⟨_,h1⟩|⟨g0,h1,_,h3⟩
  ·omega
  ·exact(h.gh.ok n g0 h1).no.2 c e z (by rw[←h3,←he];exact hc)
 have nE:∀{b o:Nat} {x:Value},w.cell? ⟨b,o,none⟩=some x->w'.heap[b]? =w.heap[b]? :=by
  intro b o x hx;refine gf b ⟨gm hx,?_⟩;unfold World.cell? at hx
  split at hx
  ·rename_i c e f hh;exact⟨c,e,f,hh⟩
  ·cases hx
 have hlv:∀{k e s:Nat} {xs:List AV},O[k]? =some (.live e s xs)->w'.heap[(L k).bc]? =w.heap[(L k).bc]? :=by
  intro k e s xs hk;obtain⟨c,⟨j5,h1,dn⟩,_⟩:=h.obj k e s xs hk;exact gf _ ⟨(Array.getElem?_eq_some_iff.1 h1).1,c,e,j5,h1⟩
 have mM:∀{k:Nat} {ob:ae},O'[k]? =some ob->(∀g',ob≠ .cN g')->O[k]? =some ob/\k≠n:=by
  intro k ob hk cr;rw[hO]at hk;by_cases eD:k=n
  ·rw[if_pos eD]at hk;cases hk;exact(cr g rfl).elim
  ·rw[if_neg eD]at hk;exact⟨hk,eD⟩
 have hfx:∀b,b<w.heap.size->¬LB L O b->w'.heap[b]? =w.heap[b]? :=λ b hb hn=>by
  refine hw b hb λ he=> ?_
  rcases hl with⟨_,h1⟩|⟨g0,h1,_,h3⟩
  ·omega
  ·exact hn (.inr (.inr ⟨n,g0,h1,by rw[←h3,he]⟩))
 have how:Own I (λ k=>if k=n then l else L k) O' w':=by
  refine⟨λ k a hk=> ?_,λ k a hk b o v hv=> ?_,λ k a hk b o v hv o'=> ?_,λ k a hk b o v hv m e' s' hZ hm hb=> ?_,λ k m a c hk hm b o o' v v' hv qX=> ?_,λ k a hk=> ?_⟩
  ·obtain⟨h1,h2⟩:=mM hk (by simp);simp only[if_neg h2];exact h.ow.tree k a h1
  ·obtain⟨h1,h2⟩:=mM hk (by simp);simp only[if_neg h2]at hv;have h3:=h.ow.cell k a h1 b o v hv;rw[←h3];exact World.cell?_of_block (a:=⟨b,o,none⟩) (nE h3)
  ·obtain⟨h1,h2⟩:=mM hk (by simp);simp only[if_neg h2]at hv;exact h.ow.iy k a h1 b o v hv o'
  ·obtain⟨h1,h2⟩:=mM hk (by simp);obtain⟨h3,h4⟩:=mM hm (by simp);simp only[if_neg h2]at hv;simp only[if_neg h4]at hb;exact h.ow.live k a h1 b o v hv m _ _ _ h3 hb
  ·obtain⟨h1,h2⟩:=mM hk (by simp);obtain⟨h3,h4⟩:=mM hm (by simp);simp only[if_neg h2]at hv;simp only[if_neg h4]at qX;exact h.ow.sep k m a c h1 h3 b o o' v v' hv qX
  ·obtain⟨h1,h2⟩:=mM hk (by simp);simp only[if_neg h2];obtain⟨S,p1,p2⟩:=h.ow.deep k a h1;refine⟨S,p1.congr λ b hb=> ?_,p2⟩;obtain⟨o,v,hv⟩:=(p2 b).1 hb;exact nE (h.ow.cell k a h1 b o v hv)
 have hgh:Gh I (λ k=>if k=n then l else L k) O' w':=by
  have bc:∀{k:Nat} {g':fT},k≠n->O[k]? =some (.cN g')->(L k).bc≠l.bc:=by
   intro k g' eD hk he;rcases hl with⟨_,h1⟩|⟨g0,h1,_,h3⟩
   ·have:=(h.gh.ok k g' hk).no.1;omega
   ·exact eD (h.gh.sep k n _ _ hk h1 (he.trans h3))
  refine⟨λ k g' hk=> ?_,λ k m g' g'' hk hm hb=> ?_⟩
  ·rw[hO]at hk;by_cases eD:k=n
   ·subst eD;rw[if_pos rfl]at hk;cases hk;simp only[if_true];exact uM dp
   ·rw[if_neg eD]at hk;simp only[if_neg eD];exact(h.gh.ok k g' hk).mono rfl (λ _ _ hr=>hr.mono dp) (hw _ (h.gh.ok k g' hk).no.1 (bc eD hk))
  ·rw[hO]at hk hm;by_cases eD:k=n<;>by_cases l6:m=n
   ·omega
   ·subst eD;simp only[if_true,if_neg l6]at hb hm;exact(bc l6 hm hb.symm).elim
   ·subst l6;simp only[if_true,if_neg eD]at hb hk;exact(bc eD hk hb).elim
   ·simp only[if_neg eD,if_neg l6]at hb hk hm;exact h.gh.sep k m _ _ hk hm hb
 refine⟨⟨λ b o x hx=> ?_,λ k e' s' hZ hk=> ?_,λ k m e1 s1 xs1 e2 s2 xs2 hk hm hb=> ?_,λ k e1 s1 xs1 o hk=> ?_,h.fix,h.lM hfx (λ _ _ _ h=>h),how,hgh⟩,dp,⟨hos,alj,arR,aln,hfx⟩,?_,λ _ _ _ h=> .inl h⟩
 ·have h1:=h.iy b o x hx;rw[←h1];exact World.cell?_of_block (a:=⟨b,o,none⟩) (nE h1)
 ·obtain⟨h1,h2⟩:=mM hk (by simp);simp only[if_neg h2];exact(h.obj k e' s' hZ h1).congr (hlv h1) λ a x=>R.mono dp
 ·obtain⟨h1,h2⟩:=mM hk (by simp);obtain⟨h3,h4⟩:=mM hm (by simp);simp only[if_neg h2,if_neg h4]at hb;exact h.sep k m _ _ _ _ _ _ h1 h3 hb
 ·obtain⟨h1,h2⟩:=mM hk (by simp);simp only[if_neg h2];exact h.dT k _ _ _ o h1
 ·rintro b (⟨k,e',s',hZ,hk,hb⟩|⟨k,a,o,v,hk,hb⟩|⟨k,g',hk,hb⟩)
  ·obtain⟨h1,h2⟩:=mM hk (by simp);simp only[if_neg h2]at hb;exact .inl (.inl ⟨k,_,_,_,h1,hb⟩)
  ·obtain⟨h1,h2⟩:=mM hk (by simp);simp only[if_neg h2]at hb;exact .inl (.inr (.inl ⟨k,a,o,v,h1,hb⟩))
  ·rw[hO]at hk;by_cases eD:k=n
   ·subst eD;simp only[if_true]at hb;rcases hl with⟨_,h1⟩|⟨g0,h1,_,h3⟩
    ·exact .inr (by omega)
    ·exact .inl (.inr (.inr ⟨k,g0,h1,by rw[←h3,hb]⟩))
   ·rw[if_neg eD]at hk;simp only[if_neg eD]at hb;exact .inl (.inr (.inr ⟨k,g',hk,hb⟩))
theorem ah1{P:Program}{w:World}(t:TypeId):(Instr.makeMap t none).run P w= .ok (.map (some w.heap.size)) (w.alloc (.map #[] 0)):=by
 simp[Instr.makeMap,newObj,Sem.run,Result.andThen]
theorem ahg{P:Program}{w:World}{t:TypeId}(h:P.underlying t=some .string)(s:ByteArray):(Instr.range t (.string s)).run P w= .ok (.pointer (some ⟨w.heap.size,0,none⟩)) (w.alloc (.stringIter s 0)):=by
 simp[Instr.range,underlying,h,newObj,Sem.run,Result.andThen]
theorem ahl{P:Program}{w:World}{r pos:Nat}{s:ByteArray}(h:w.heap[r]? =some (.stringIter s pos))(t:TypeId):
  (Instr.next (.pointer (some ⟨r,0,none⟩)) true t).run P w=if pos<s.size then .ok (.tuple #[.bool true,goInt pos,.int .i32 (Utf8.decode s pos).1]) {w with heap:=w.heap.set! r (.stringIter s (pos+(Utf8.decode s pos).2))}else .ok (.tuple #[.bool false]) w:=by
 by_cases hp:pos<s.size<;>simp[Instr.next,getObj,setObj,h,hp,Sem.run,Result.andThen]
theorem xJ{d:TypeDesc}{a b:Value}(ha:MapKept.IsKey d a)(hb:MapKept.IsKey d b):afr a b=true↔a=b:=by
 cases d<;>cases a<;>cases b<;>simp_all [MapKept.IsKey,afr]
theorem lY{I:da}{L:Nat->Loc}{O:List ae}{d:TypeDesc}{k:Value}(hk:MapKept.IsKey d k):∀(es:List (AV×AV)) (l:List MapEntry) (i:Nat),l.length=es.length->
  (∀(j:Nat) a v,es[j]? =some (a,v)->∃e,l[j]? =some e/\R I L O a e.key/\R I L O v e.val)->(∀p∈es,∃k',p.1= .v k'/\MapKept.IsKey d k')->
  match kX k es i with
  |none=>Instr.findNow d k l i=some none
  |some (j,v)=>∃x,Instr.findNow d k l i=some (some (j,x))/\R I L O v x
 | [],l,i,hl,_,_=>by
   obtain rfl:=List.eq_nil_of_length_eq_zero hl
   rfl
 |(a,v)::es,l,i,hl,hr,xY=>by
  cases l with
  |nil=>simp at hl
  |cons e l=>
   obtain⟨k',h1,h2⟩:=xY (a,v) (by simp);simp only at h1;subst h1;obtain⟨e',h3,h4,h5⟩:=hr 0 (.v k') v rfl;simp at h3;subst h3;have h6:e.key=k':=by cases h4;rfl
   obtain⟨r,hs,ar0⟩:=MapKept.sameNow_of_keys hk (show MapKept.IsKey d e.key by rw[h6];exact h2);rw[h6]at ar0;by_cases hq:k=k'
   ·have hb:afr k k'=true:=(xJ hk h2).2 hq;have:r=true:=ar0.2 hq;subst this;simp only[kX,hb,if_true];exact⟨e.val,by simp[Instr.findNow,hs],h5⟩
   ·have hb:¬afr k k'=true:=λ h=>hq ((xJ hk h2).1 h)
    have:r=false:=by
     cases r with
     |false=>rfl
     |true=>exact(hq (ar0.1 rfl)).elim
    subst this;have ih:=lY hk es l (i+1) (by simpa using hl) (λ j a v hj=>by simpa using hr (j+1) a v (by simpa using hj)) λ p hp=>xY p (by simp[hp])
    simp only[kX,if_neg hb];have hf:Instr.findNow d k (e::l) i=Instr.findNow d k l (i+1):=by simp[Instr.findNow,hs]
    rw[hf];exact ih
section
variable {P:Program} {w:World} {mty kt et:TypeId} {d:TypeDesc} {r clock:Nat} {en:Array MapEntry} {k:Value}
theorem ac0(hm:P.underlying mty=some (.map kt et))(hd:P.underlying kt=some d)(hb:w.heap[r]? =some (.map en clock))(hk:MapKept.IsKey d k){z:Value}(hz:(zeroValue et).run P w= .ok z w)
  (hf:Instr.findNow d k en.toList 0=some none) (ok:Bool):(Instr.lookup mty (.map (some r)) k ok).run P w= .ok (if ok then .tuple #[z,.bool false]else z) w:=by
 cases ok<;>simp[Instr.lookup,run_underlying hm,MapKept.run_getObj_map hb,MapKept.run_checkKey hd hk,MapKept.run_findKey hd hf,hz,Result.andThen]
theorem acZ(hm:P.underlying mty=some (.map kt et))(hd:P.underlying kt=some d)(hb:w.heap[r]? =some (.map en clock))(hk:MapKept.IsKey d k){j:Nat}{v:Value}
  (hf:Instr.findNow d k en.toList 0=some (some (j,v))) (ok:Bool):(Instr.lookup mty (.map (some r)) k ok).run P w= .ok (if ok then .tuple #[v,.bool true]else v) w:=by
 cases ok<;>simp[Instr.lookup,run_underlying hm,MapKept.run_getObj_map hb,MapKept.run_checkKey hd hk,MapKept.run_findKey hd hf,Result.andThen]
theorem acd(hm:P.underlying mty=some (.map kt et))(hd:P.underlying kt=some d)(hb:w.heap[r]? =some (.map en clock))(hk:MapKept.IsKey d k)(v:Value)
  (hf:Instr.findNow d k en.toList 0=some none):(Instr.mapUpdate mty (.map (some r)) k v).run P w= .ok () {w with heap:=w.heap.setIfInBounds r (.map (en.push {key:=k,val:=v,born:=clock}) (clock+1))}:=by
 simp[Instr.mapUpdate,run_underlying hm,MapKept.run_getObj_map hb,MapKept.run_checkKey hd hk,MapKept.run_findKey hd hf,MapKept.run_setObj_map _ hb,Result.andThen]
theorem acb(hm:P.underlying mty=some (.map kt et))(hd:P.underlying kt=some d)(hb:w.heap[r]? =some (.map en clock))(hk:MapKept.IsKey d k)(v:Value){j:Nat}{e:MapEntry}{u:Value}
  (hf:Instr.findNow d k en.toList 0=some (some (j,u))) (he:en[j]? =some e) (hek:e.key=k):
  (Instr.mapUpdate mty (.map (some r)) k v).run P w= .ok () {w with heap:=w.heap.setIfInBounds r (.map (en.modify j λ e=>{e with key:=k,val:=v}) clock)}:=by
 simp[Instr.mapUpdate,run_underlying hm,MapKept.run_getObj_map hb,MapKept.run_checkKey hd hk,MapKept.run_findKey hd hf,he,hek,MapKept.run_keyThatStays hk,MapKept.run_setObj_map _ hb,Result.andThen]
end
end Go.Ab
namespace Go.Ab
section
variable {P:Program} {I:da} {L:Nat->Loc} {O:List ae} {w:World} {K:AV->List ae->Prop} {e:Env} {a:Act}
variable {d:Option Tmp} {ty:TypeId} {pos:String} {af:Array Edge} {g:Option (Nat×Bool)} {ao:dZ}
theorem R.rF{n:Nat}{x:Value}{q:fT}(h:R I L O (.own n) x)(hO:O[n]? =some (.cN q)):x=q.val (L n).bc:=by
 cases h with
 |eL _ b h1=>rw[hO]at h1;cases h1
 |fD _ q' h1=>rw[hO]at h1;cases h1;rfl
 |dO _ _ _ _ h1=>exact(h1 _ hO).elim
theorem KD.key{u:TypeDesc}{c:KD}(h:KD.of u=some c){k:Value}(hk:c.ok k=true):MapKept.IsKey u k:=by
 cases u<;>simp[KD.of]at h<;>subst h<;>cases k<;>simp_all [KD.ok,MapKept.IsKey]
theorem KD.keys{u:TypeDesc}{c:KD}(h:KD.of u=some c){es:List (AV×AV)}(hk:c.all es=true):∀p∈es,∃k',p.1= .v k'/\MapKept.IsKey u k':=by
 intro p hp;have:=List.all_eq_true.1 hk p hp
 split at this
 ·rename_i k hq;exact⟨k,hq,KD.key h this⟩
 ·cases this
theorem acT{k:Value}:∀(es:List (AV×AV)) (i j:Nat) (v:AV),kX k es i=some (j,v)->∃q k',j=i+q/\es[q]? =some (.v k',v)/\afr k k'=true
 | [],_,_,_,h=>by simp[kX]at h
 |(p,u)::es,i,j,v,h=>by
  have step:kX k es (i+1)=some (j,v)->∃q k',j=i+q/\((p,u)::es)[q]? =some (.v k',v)/\afr k k'=true:=λ h=>by
   obtain⟨q,k',h1,h2,h3⟩:=acT es (i+1) j v h;exact⟨q+1,k',by omega,by simpa using h2,h3⟩
  unfold kX at h
  split at h
  ·rename_i heq;simp at heq
  ·rename_i k' v' es' heq;cases heq
   split at h
   ·rename_i hq;cases h;exact⟨0,k',by omega,rfl,hq⟩
   ·exact step h
  ·rename_i heq;cases heq;exact step h
theorem ahE(hi:Inv I L O w){t:TypeId}{r:Option Operand}(hc:bR P ty (.makeMap t r)=some ao)(hk:wpOp P ao e O K):fx P I L O w (execOp a.eval ⟨d,.makeMap t r,ty,pos,af,g⟩) K:=by
 cases r with
 |some _=>simp[bR]at hc
 |none=>
  simp only[bR,Option.some.injEq]at hc;subst hc
  have hg:=hi.w7 (O':=O++ [.cN (.mp [])]) (w':=w.alloc (.map #[] 0)) (n:=O.length) (l:=Loc.at w.heap.size 0) (g:= .mp [])
   (λ k=>by
    by_cases h:k=O.length
    ·subst h;simp
    ·rw[if_neg h];by_cases hl:k<O.length
     ·exact getElem?_append_left hl
     ·rw[getElem?_eq_none (l:=O++ [ae.cN (fT.mp [])]) (by simp;omega),getElem?_eq_none (by omega)])
   (by simp) (λ b hb _=>(MapKept.heap_alloc w _).2 b hb) rfl rfl rfl (by simp) (.inl ⟨le_refl _,le_refl _⟩) (λ _=>⟨#[],0,(MapKept.heap_alloc w _).1,rfl,by simp⟩)
  have hr:=R.fD (I:=I) (L:=λ k=>if k=O.length then Loc.at w.heap.size 0 else L k) (O:=O++ [.cN (.mp [])]) O.length (.mp []) (by simp);refine⟨_,_,_,_,_,_,hk,hg,hr,.inl ?_⟩;simp[execOp,ah1,fT.val,fT.kY,Result.andThen]
theorem qE{i:Nat}(h:fH O i=true):∃t s x,O[i]? =some (.live t s [x])/\s≠1:=by
 unfold fH at h
 split at h
 ·rename_i t s x hO;exact⟨t,s,x,hO,by simpa using h⟩
 ·cases h
theorem pa{i:Nat}{v:Value}(h:fH O i=true)(hr:R I L O (.ptr i 1 0 0) v):v= .pointer (some ⟨(L i).bc,0,none⟩):=by
 obtain⟨t,s,x,hO,_⟩:=qE h;have:=hr.gP hO rfl;simpa using this
theorem ac6(hi:Inv I L O w){i j:Nat}(h:fH O i=true)(k:fH O j=true):(sameAddr ⟨(L i).bc,0,none⟩ ⟨(L j).bc,0,none⟩).run P w= .ok (decide (i=j)) w:=by
 obtain⟨t,s,x,hO,hs⟩:=qE h;obtain⟨t',s',x',hO',hs'⟩:=qE k;by_cases hij:i=j
 ·subst hij;rw[run_sameAddr_same];simp
 ·obtain⟨c,⟨m,h1,hm⟩,_⟩:=hi.obj i _ _ _ hO;obtain⟨c',⟨m',h1',hm'⟩,_⟩:=hi.obj j _ _ _ hO';have e1:m=(0,0):=by rcases hm with h|h;exact h;exact(hs h.2).elim
  have e2:m'=(0,0):=by rcases hm' with h|h;exact h;exact(hs' h.2).elim
  subst e1;subst e2;rw[run_sameAddr_other w (λ h=>hij (hi.sep i j _ _ _ _ _ _ hO hO' (by simpa using h))) h1 h1'];simp[hij]
theorem tu{t:TypeId}(h:uJ P t=true):∃el i,P.underlying t=some (.pointer el)/\P.info? el=some i/\i.size≠0:=by
 unfold uJ at h
 split at h
 ·rename_i el ht
  split at h
  ·rename_i i hi
   exact⟨el,i,ht,hi,by have:0<i.size:=by simpa using h
                       omega⟩
  ·cases h
 ·cases h
theorem zB{t el:TypeId}{i:TypeInfo}(ht:P.underlying t=some (.pointer el))(kJ:P.info? el=some i)(hs:i.size≠0){x y:Addr}{b:Bool}(h:(sameAddr x y).run P w= .ok b w):
  (Op.equal t (.pointer (some x)) (.pointer (some y))).run P w= .ok b w:=by
 have e1:Op.equal t (.pointer (some x)) (.pointer (some y))=Op.equalIn (9999+1) t (.pointer (some x)) (.pointer (some y)):=rfl;rw[e1,Op.equalIn];simp[run_underlying ht,sizeOf,typeInfo,kJ,hs,h]
theorem ub(hi:Inv I L O w){kt el:TypeId}{inf:TypeInfo}(ht:P.underlying kt=some (.pointer el))(kJ:P.info? el=some inf)(hs:inf.size≠0){j:Nat}(hj:fH O j=true):∀(es:List (AV×AV)) (l:List MapEntry) (i:Nat),l.length=es.length->
  (∀(j:Nat) a v,es[j]? =some (a,v)->∃e,l[j]? =some e/\R I L O a e.key/\R I L O v e.val)->mR O es=true->
  match kV j es i with
  |none=>(Instr.findAsking kt (.pointer (some ⟨(L j).bc,0,none⟩)) l i).run P w= .ok none w
  |some (q,v)=>∃x,(Instr.findAsking kt (.pointer (some ⟨(L j).bc,0,none⟩)) l i).run P w= .ok (some (q,x)) w/\R I L O v x
 | [],l,i,hl,_,_=>by
   obtain rfl:=List.eq_nil_of_length_eq_zero hl;simp[kV,Instr.findAsking]
 |(a,v)::es,l,i,hl,hr,hk=>by
  cases l with
  |nil=>simp at hl
  |cons e l=>
   obtain⟨e',h3,h4,h5⟩:=hr 0 a v rfl;simp at h3;subst h3;simp only[mR,List.all_cons,Bool.and_eq_true]at hk;obtain⟨qY,hk2⟩:=hk
   split at qY
   ·rename_i k;have hv:=pa qY h4;have hq:=zB (P:=P) (w:=w) ht kJ hs (ac6 (P:=P) hi hj qY);by_cases hjk:j=k
    ·subst hjk;simp only[kV,if_true];refine⟨e.val,?_,h5⟩;unfold Instr.findAsking;simp[hv,hq]
    ·have ih:=ub hi ht kJ hs hj es l (i+1) (by simpa using hl) (λ q a v hq=>by simpa using hr (q+1) a v (by simpa using hq)) hk2;simp only[kV,if_neg hjk]
     have hf:(Instr.findAsking kt (.pointer (some ⟨(L j).bc,0,none⟩)) (e::l) i).run P w=(Instr.findAsking kt (.pointer (some ⟨(L j).bc,0,none⟩)) l (i+1)).run P w:=by
      conv=>lhs;unfold Instr.findAsking
      simp[hv,hq,hjk]
     rw[hf];exact ih
   ·cases qY
theorem iC{kt el:TypeId}(ht:P.underlying kt=some (.pointer el))(k:Value)(l:List MapEntry):(Instr.findKey kt k l).run P w=(Instr.findAsking kt k l 0).run P w:=by
 cases l with
 |nil=>simp[Instr.findKey,Instr.findAsking,run_underlying ht,Instr.findNow]
 |cons e l=>simp[Instr.findKey,run_underlying ht,Instr.findNow,Instr.sameNow]
theorem hC{kt el:TypeId}(ht:P.underlying kt=some (.pointer el))(a:Option Addr)(e:Bool):(Instr.checkKey e 10000 kt (.pointer a)).run P w= .ok () w:=by
 show(Instr.checkKey e (9999+1) kt (.pointer a)).run P w=_;unfold Instr.checkKey;simp[run_underlying ht]
theorem acz{k:Nat}:∀(es:List (AV×AV)) (i j:Nat) (v:AV),kV k es i=some (j,v)->∃q l m f,j=i+q/\es[q]? =some (.ptr k l m f,v)
 | [],_,_,_,h=>by simp[kV]at h
 |(p,u)::es,i,j,v,h=>by
  have step:kV k es (i+1)=some (j,v)->∃q l m f,j=i+q/\((p,u)::es)[q]? =some (.ptr k l m f,v):=λ h=>by
   obtain⟨q,l,m,f,h1,h2⟩:=acz es (i+1) j v h;exact⟨q+1,l,m,f,by omega,by simpa using h2⟩
  unfold kV at h
  split at h
  ·rename_i heq;simp at heq
  ·rename_i k' _ _ _ v' es' heq;cases heq
   split at h
   ·rename_i hq;subst hq;cases h;exact⟨0,_,_,_,by omega,rfl⟩
   ·exact step h
  ·rename_i heq;cases heq;exact step h
theorem afq{es:List (AV×AV)}(h:mR O es=true){q:Nat}{p v:AV}(hq:es[q]? =some (p,v)):∃k,p= .ptr k 1 0 0/\fH O k=true:=by
 have:=List.all_eq_true.1 h _ (mem_of_getElem? hq);simp only at this
 split at this
 ·exact⟨_,rfl,this⟩
 ·cases this
theorem acY(hi:Inv I L O w){n:Nat}{es:List (AV×AV)}{en:Array MapEntry}{clock:Nat}(hO:O[n]? =some (.cN (.mp es)))(b1:w.heap[(L n).bc]? =some (.map en clock))
  (es':List (AV×AV)) (en':Array MapEntry) (tY:Nat) (h1:en'.size=es'.length) (h2:∀(i:Nat) p q,es'[i]? =some (p,q)->∃e,en'[i]? =some e/\R I L O p e.key/\R I L O q e.val):
  Good I L O w I (λ k=>if k=n then L n else L k) (O.set n (.cN (.mp es'))) {w with heap:=w.heap.setIfInBounds (L n).bc (.map en' tY)}:=by
 have hn:=(List.getElem?_eq_some_iff.1 hO).1
 exact hi.w7 (n:=n) (l:=L n) (g:= .mp es') (λ k=>by
   by_cases h:k=n
   ·subst h;rw[if_pos rfl];exact getElem?_set_self hn
   ·rw[if_neg h];exact getElem?_set_ne λ q=>h q.symm)
  (by simp) (λ b _ cr=>(MapKept.heap_set b1).2 b cr) rfl rfl rfl (by simp) (.inr ⟨_,hO,rfl,rfl⟩)
  (λ dp=>⟨en',tY,(MapKept.heap_set b1).1,h1,λ i p q hx=>by
   obtain⟨e,h3,h4,h5⟩:=h2 i p q hx;exact⟨e,h3,h4.mono dp,h5.mono dp⟩⟩)
theorem aj5(hi:Inv I L O w)(he:∀t,R I L O (e t) (a.tmps.getD t undef)){t kt et:TypeId}(ht:P.underlying t=some (.map kt et))(hbx:uJ P kt=true){m k:Operand}{ok:Bool}{s b:Nat}{z:AV}(hz:ld P et=some (s,b,z)){am ak:aE}(hm:bC m=some am)(hkk:bC k=some ak)
  (hk:wpOp P (.ae1 ok z am ak) e O K):fx P I L O w (execOp a.eval ⟨d,.lookup t m k ok,ty,pos,af,g⟩) K:=by
 obtain⟨el,inf,hpt,kJ,lj⟩:=tu hbx;obtain⟨i,z0,h1,h2,h3,rfl,rfl,h4,h5,h6,h7⟩:=eV hz;have rm:=an hm he;have rk:=an hkk he;simp only[wpOp]at hk
 split at hk
 ·rename_i n j qm qk
  split at hk
  ·rename_i es hO;obtain⟨k1,k2,k3⟩:=hk;rw[qm]at rm;rw[qk]at rk;have em:=rm.rF hO;have ek:=pa k1 rk;obtain⟨en,clock,b1,b2,b3⟩:=hi.gh.ok n _ hO;have hfm:=ub (P:=P) hi hpt kJ lj k1 es en.toList 0 (by simpa using b2) (λ j p v hj=>by simpa using b3 j p v hj) k2;have hzr:(zeroValue et).run P w= .ok z0 w:=by simp[zeroValue,typeInfo,h1,h2]
   cases hq:kV j es 0 with
   |none=>
    rw[hq]at hfm k3;have rz:R I L O z z0:=eK h3
    have bJ:(Instr.lookup t (.map (some (L n).bc)) (.pointer (some ⟨(L j).bc,0,none⟩)) ok).run P w= .ok (if ok then .tuple #[z0,.bool false]else z0) w:=by
     cases ok<;>simp[Instr.lookup,run_underlying ht,MapKept.run_getObj_map b1,hC hpt,iC hpt,hfm,hzr,Result.andThen]
    cases ok with
    |false=>exact .same hi k3 rz (by simp[execOp,em,ek,fT.val,fT.kY,bJ,Result.andThen])
    |true=>
     refine .same hi k3 (y:= .tuple #[z0,.bool false]) (.aK _ _ rfl λ j c x hc hx=> ?_) (by simp[execOp,em,ek,fT.val,fT.kY,bJ,Result.andThen]);rcases j with _|_|j<;>simp at hc hx<;>subst hc<;>subst hx
     ·exact rz
     ·exact .v _ rfl
   |some p=>
    obtain⟨q,v⟩:=p;rw[hq]at hfm k3;obtain⟨x,hf,rx⟩:=hfm
    have bJ:(Instr.lookup t (.map (some (L n).bc)) (.pointer (some ⟨(L j).bc,0,none⟩)) ok).run P w= .ok (if ok then .tuple #[x,.bool true]else x) w:=by
     cases ok<;>simp[Instr.lookup,run_underlying ht,MapKept.run_getObj_map b1,hC hpt,iC hpt,hf,Result.andThen]
    cases ok with
    |false=>exact .same hi k3 rx (by simp[execOp,em,ek,fT.val,fT.kY,bJ,Result.andThen])
    |true=>
     refine .same hi k3 (y:= .tuple #[x,.bool true]) (.aK _ _ rfl λ j c x hc hx=> ?_) (by simp[execOp,em,ek,fT.val,fT.kY,bJ,Result.andThen]);rcases j with _|_|j<;>simp at hc hx<;>subst hc<;>subst hx
     ·exact rx
     ·exact .v _ rfl
  ·exact hk.elim
 ·exact hk.elim
theorem aj2(hi:Inv I L O w)(he:∀t,R I L O (e t) (a.tmps.getD t undef)){t kt et:TypeId}(ht:P.underlying t=some (.map kt et))(hbx:uJ P kt=true){m k v:Operand}{am ak av:aE}(hm:bC m=some am)(hkk:bC k=some ak)(hv:bC v=some av)
  (hk:wpOp P (.qp am ak av) e O K):fx P I L O w (execOp a.eval ⟨d,.mapUpdate t m k v,ty,pos,af,g⟩) K:=by
 obtain⟨el,inf,hpt,kJ,lj⟩:=tu hbx;have rm:=an hm he;have rk:=an hkk he;have rv:=an hv he;simp only[wpOp]at hk
 split at hk
 ·rename_i n j qm qk
  split at hk
  ·rename_i es hO;obtain⟨k1,k2,k3⟩:=hk;rw[qm]at rm;rw[qk]at rk;have em:=rm.rF hO;have ek:=pa k1 rk;rw[ek]at rk;obtain⟨en,clock,b1,b2,b3⟩:=hi.gh.ok n _ hO;have hfm:=ub (P:=P) hi hpt kJ lj k1 es en.toList 0 (by simpa using b2) (λ j p v hj=>by simpa using b3 j p v hj) k2;cases hq:kV j es 0 with
   |none=>
    rw[hq]at hfm;have hms:Go.Ab.qp j (av.ev e) es=es++ [(.ptr j 1 0 0,av.ev e)]:=by unfold Go.Ab.qp;rw[hq]
    rw[hms]at k3
    have bJ:(Instr.mapUpdate t (.map (some (L n).bc)) (.pointer (some ⟨(L j).bc,0,none⟩)) (a.eval v)).run P w= .ok () {w with heap:=w.heap.setIfInBounds (L n).bc (.map (en.push {key:= .pointer (some ⟨(L j).bc,0,none⟩),val:=a.eval v,born:=clock}) (clock+1))}:=by
     simp[Instr.mapUpdate,run_underlying ht,MapKept.run_getObj_map b1,hC hpt,iC hpt,hfm,MapKept.run_setObj_map _ b1,Result.andThen]
    refine⟨_,_,undef,_,_,_,k3,acY hi hO b1 _ (en.push ⟨.pointer (some ⟨(L j).bc,0,none⟩),a.eval v,clock⟩) (clock+1) (by simp[b2]) (λ i p q hx=> ?_),.aK _ _ rfl (by simp),.inr ⟨?_,rfl⟩⟩;rotate_left
    ·simp[execOp,em,ek,fT.val,fT.kY,bJ,Result.andThen]
    ·by_cases ej:i<es.length
     ·rw[getElem?_append_left ej]at hx;obtain⟨e',h3,h4,h5⟩:=b3 i p q hx;exact⟨e',by rw[Array.getElem?_push];rw[if_neg (by omega)];exact h3,h4,h5⟩
     ·rw[getElem?_append_right (by omega)]at hx;cases hz:i- es.length with
      |succ z=>rw[hz]at hx;simp at hx
      |zero=>
       rw[hz]at hx;simp at hx;obtain⟨rfl,rfl⟩:=hx;exact⟨⟨.pointer (some ⟨(L j).bc,0,none⟩),a.eval v,clock⟩,by rw[Array.getElem?_push];rw[if_pos (by omega)],rk,rv⟩
   |some p=>
    obtain⟨q,u0⟩:=p;rw[hq]at hfm;obtain⟨x0,hf,_⟩:=hfm;obtain⟨q0,l0,m0,f0,hj,hes⟩:=acz es 0 q u0 hq;obtain rfl:q=q0:=by omega
    obtain⟨kk,ax1,ax0⟩:=afq k2 hes;cases ax1;obtain⟨e0,h3,h4,_⟩:=b3 q _ _ hes;have hke:e0.key= .pointer (some ⟨(L j).bc,0,none⟩):=pa ax0 h4;have hms:Go.Ab.qp j (av.ev e) es=es.set q (.ptr j 1 0 0,av.ev e):=by unfold Go.Ab.qp;rw[hq]
    rw[hms]at k3
    have auV:(Instr.keyThatStays (.pointer (some ⟨(L j).bc,0,none⟩)) (.pointer (some ⟨(L j).bc,0,none⟩))).run P w= .ok (.pointer (some ⟨(L j).bc,0,none⟩)) w:=by
     simp[Instr.keyThatStays,Instr.sameBits]
    have bJ:(Instr.mapUpdate t (.map (some (L n).bc)) (.pointer (some ⟨(L j).bc,0,none⟩)) (a.eval v)).run P w= .ok () {w with heap:=w.heap.setIfInBounds (L n).bc (.map (en.modify q λ e=>{e with key:= .pointer (some ⟨(L j).bc,0,none⟩),val:=a.eval v}) clock)}:=by
     simp[Instr.mapUpdate,run_underlying ht,MapKept.run_getObj_map b1,hC hpt,iC hpt,hf,h3,hke,auV,MapKept.run_setObj_map _ b1,Result.andThen]
    refine⟨_,_,undef,_,_,_,k3,acY hi hO b1 _ (en.modify q λ e=>{e with key:= .pointer (some ⟨(L j).bc,0,none⟩),val:=a.eval v}) clock (by simp[b2]) (λ i p q' hx=> ?_),.aK _ _ rfl (by simp),.inr ⟨?_,rfl⟩⟩;rotate_left
    ·simp[execOp,em,ek,fT.val,fT.kY,bJ,Result.andThen]
    ·by_cases hij:i=q
     ·subst hij;have au:=(List.getElem?_eq_some_iff.1 hes).1;rw[getElem?_set_self au]at hx;cases hx;exact⟨{e0 with key:= .pointer (some ⟨(L j).bc,0,none⟩),val:=a.eval v},by rw[Array.getElem?_modify];simp[h3],rk,rv⟩
     ·rw[getElem?_set_ne (λ q=>hij q.symm)]at hx;obtain⟨e',h3',h4',h5'⟩:=b3 i p q' hx;exact⟨e',by rw[Array.getElem?_modify];simp[h3',Ne.symm hij],h4',h5'⟩
  ·exact hk.elim
 ·exact hk.elim
theorem ahA(hi:Inv I L O w)(he:∀t,R I L O (e t) (a.tmps.getD t undef)){t:TypeId}{x:Operand}(hc:bR P ty (.range t x)=some ao)(hk:wpOp P ao e O K):fx P I L O w (execOp a.eval ⟨d,.range t x,ty,pos,af,g⟩) K:=by
 simp only[bR]at hc
 split at hc
 ·rename_i ht;simp only[bind_eq_bind,bind_eq_some_iff,Option.some.injEq]at hc;obtain⟨ax,hx,rfl⟩:=hc;have rx:=an hx he;simp only[wpOp]at hk
  split at hk
  ·rename_i s hs;rw[hs]at rx;have hv:=rx.exact
   have hg:=hi.w7 (O':=O++ [.cN (.it s 0)]) (w':=w.alloc (.stringIter s 0)) (n:=O.length) (l:=Loc.at w.heap.size 0) (g:= .it s 0)
    (λ k=>by
     by_cases h:k=O.length
     ·subst h;rw[if_pos rfl];simp
     ·rw[if_neg h];by_cases h2:k<O.length
      ·rw[getElem?_append_left h2]
      ·rw[getElem?_eq_none (by simp;omega),getElem?_eq_none (by omega)])
    (by simp) (λ b hb _=>heap_alloc_old w _ b hb) rfl rfl rfl (by rw[World.size_alloc];exact le_succ _) (.inl ⟨le_refl _,le_refl _⟩)
    (λ _=>by
     show(w.alloc (.stringIter s 0)).heap[(Loc.at w.heap.size 0).bc]? =_;exact heap_alloc_new w _)
   refine⟨_,_,.pointer (some ⟨w.heap.size,0,none⟩),_,_,_,hk,hg,?_,.inl ?_⟩
   ·have:=R.fD (I:=I) (L:=λ k=>if k=O.length then Loc.at w.heap.size 0 else L k) (O:=O++ [.cN (.it s 0)]) O.length (.it s 0) (by simp);simpa [fT.val,fT.kY,Loc.at]using this
   ·have bJ:=ahg (P:=P) (w:=w) ht s;simp only[execOp,hv];rw[Sem.run_bind,bJ];rfl
  ·exact hk.elim
 ·cases hc
theorem ahC(hi:Inv I L O w)(he:∀t,R I L O (e t) (a.tmps.getD t undef)){x:Operand}{is:Bool}(hc:bR P ty (.next x is)=some ao)(hk:wpOp P ao e O K):fx P I L O w (execOp a.eval ⟨d,.next x is,ty,pos,af,g⟩) K:=by
 cases is with
 |false=>simp[bR]at hc
 |true=>
  simp only[bR,bind_eq_bind,bind_eq_some_iff,Option.some.injEq]at hc;obtain⟨ax,hx,rfl⟩:=hc;have rx:=an hx he;simp only[wpOp]at hk
  split at hk
  ·rename_i n hn
   split at hk
   ·rename_i s pos' hO;rw[hn]at rx;have hv:=rx.rF hO;have hb:w.heap[(L n).bc]? =some (.stringIter s pos'):=hi.gh.ok n _ hO;have hnl:=(List.getElem?_eq_some_iff.1 hO).1;have bJ:=ahl (P:=P) hb ty;by_cases hp:pos'<s.size
    ·rw[if_pos hp]at bJ;have hbl:=(Array.getElem?_eq_some_iff.1 hb).1
     have hg:=hi.w7 (n:=n) (l:=L n) (g:= .it s (pos'+(Utf8.decode s pos').2)) (O':=O.set n (.cN (.it s (pos'+(Utf8.decode s pos').2)))) (w':={w with heap:=w.heap.set! (L n).bc (.stringIter s (pos'+(Utf8.decode s pos').2))})
      (λ k=>by
       by_cases h:k=n
       ·subst h;rw[if_pos rfl];exact getElem?_set_self hnl
       ·rw[if_neg h];exact getElem?_set_ne λ q=>h q.symm)
      (by simp) (λ b _ cr=>by simp[Array.set!,Ne.symm cr]) rfl rfl rfl (by simp) (.inr ⟨_,hO,rfl,rfl⟩)
      (λ _=>by
       show((w.heap.set! (L n).bc _))[(L n).bc]? =_;simp[hbl])
     refine⟨_,_,.tuple #[.bool true,goInt pos',.int .i32 (Utf8.decode s pos').1],_,_,_,hk.1 hp,hg,?_,.inl ?_⟩
     ·refine .aK _ _ rfl λ j c x hc hx=> ?_
      rcases j with _|_|_|j<;>simp at hc hx<;>subst hc<;>subst hx<;>exact .v _ rfl
     ·simp only[execOp,hv,fT.val,fT.kY];simp at bJ⊢;rw[bJ];rfl
    ·rw[if_neg hp]at bJ;refine .same hi (hk.2 hp) (y:= .tuple #[.bool false]) (.aK _ _ rfl λ j c x hc hx=> ?_) ?_
     ·rcases j with _|j<;>simp at hc hx<;>subst hc<;>subst hx<;>exact .v _ rfl
     ·simp only[execOp,hv,fT.val,fT.kY];simp at bJ⊢;rw[bJ];rfl
   ·exact hk.elim
  ·exact hk.elim
theorem aj8(hi:Inv I L O w)(he:∀t,R I L O (e t) (a.tmps.getD t undef)){t:TypeId}{m k:Operand}{ok:Bool}(hc:bR P ty (.lookup t m k ok)=some ao)(hk:wpOp P ao e O K):fx P I L O w (execOp a.eval ⟨d,.lookup t m k ok,ty,pos,af,g⟩) K:=by
 simp only[bR]at hc
 split at hc
 ·rename_i kt et ht
  split at hc
  ·rename_i hbx;simp only[bind_eq_bind,bind_eq_some_iff,Option.some.injEq]at hc;obtain⟨⟨s,b,z⟩,hz,am,hm,ak,hkk,rfl⟩:=hc;exact aj5 hi he ht hbx hz hm hkk hk
  simp only[bind_eq_bind,bind_eq_some_iff,Option.some.injEq]at hc;obtain⟨u,hu,c,hcd,⟨s,b,z⟩,hz,am,hm,ak,hkk,rfl⟩:=hc;obtain⟨i,z0,h1,h2,h3,rfl,rfl,h4,h5,h6,h7⟩:=eV hz;have rm:=an hm he;have rk:=an hkk he;simp only[wpOp]at hk
  split at hk
  ·rename_i n kv qm qk
   split at hk
   ·rename_i es hO;obtain⟨k1,k2,k3⟩:=hk;rw[qm]at rm;rw[qk]at rk;have em:=rm.rF hO;have ek:a.eval k=kv:=by cases rk;rfl
    obtain⟨en,clock,b1,b2,b3⟩:=hi.gh.ok n _ hO;have xY:=KD.key hcd k1;have hfm:=lY (I:=I) (L:=L) (O:=O) xY es en.toList 0 (by simpa using b2) (λ j p v hj=>by simpa using b3 j p v hj) (KD.keys hcd k2);have hzr:(zeroValue et).run P w= .ok z0 w:=by simp[zeroValue,typeInfo,h1,h2]
    cases hq:kX kv es 0 with
    |none=>
     rw[hq]at hfm k3;have bJ:=ac0 ht hu b1 xY hzr hfm ok;have rz:R I L O z z0:=eK h3;cases ok with
     |false=>exact .same hi k3 rz (by simp[execOp,em,ek,fT.val,fT.kY,bJ,Result.andThen])
     |true=>
      refine .same hi k3 (y:= .tuple #[z0,.bool false]) (.aK _ _ rfl λ j c x hc hx=> ?_) (by simp[execOp,em,ek,fT.val,fT.kY,bJ,Result.andThen]);rcases j with _|_|j<;>simp at hc hx<;>subst hc<;>subst hx
      ·exact rz
      ·exact .v _ rfl
    |some p=>
     obtain⟨j,v⟩:=p;rw[hq]at hfm k3;obtain⟨x,hf,rx⟩:=hfm;have bJ:=acZ ht hu b1 xY hf ok;cases ok with
     |false=>exact .same hi k3 rx (by simp[execOp,em,ek,fT.val,fT.kY,bJ,Result.andThen])
     |true=>
      refine .same hi k3 (y:= .tuple #[x,.bool true]) (.aK _ _ rfl λ j c x hc hx=> ?_) (by simp[execOp,em,ek,fT.val,fT.kY,bJ,Result.andThen]);rcases j with _|_|j<;>simp at hc hx<;>subst hc<;>subst hx
      ·exact rx
      ·exact .v _ rfl
   ·exact hk.elim
  ·exact hk.elim
 ·cases hc
theorem acw(hi:Inv I L O w)(he:∀t,R I L O (e t) (a.tmps.getD t undef)){t:TypeId}{m k v:Operand}(hc:bR P ty (.mapUpdate t m k v)=some ao)(hk:wpOp P ao e O K):fx P I L O w (execOp a.eval ⟨d,.mapUpdate t m k v,ty,pos,af,g⟩) K:=by
 simp only[bR]at hc
 split at hc
 ·rename_i kt et ht
  split at hc
  ·rename_i hbx;simp only[bind_eq_bind,bind_eq_some_iff,Option.some.injEq]at hc;obtain⟨am,hm,ak,hkk,av,hv,rfl⟩:=hc;exact aj2 hi he ht hbx hm hkk hv hk
  simp only[bind_eq_bind,bind_eq_some_iff,Option.some.injEq]at hc;obtain⟨u,hu,c,hcd,am,hm,ak,hkk,av,hv,rfl⟩:=hc;have rm:=an hm he;have rk:=an hkk he;have rv:=an hv he;simp only[wpOp]at hk
  split at hk
  ·rename_i n kv qm qk
   split at hk
   ·rename_i es hO;obtain⟨k1,k2,k3⟩:=hk;rw[qm]at rm;rw[qk]at rk;have em:=rm.rF hO;have ek:a.eval k=kv:=by cases rk;rfl
    rw[ek]at rk;obtain⟨en,clock,b1,b2,b3⟩:=hi.gh.ok n _ hO;have hn:=(List.getElem?_eq_some_iff.1 hO).1;have xY:=KD.key hcd k1;have hfm:=lY (I:=I) (L:=L) (O:=O) xY es en.toList 0 (by simpa using b2) (λ j p v hj=>by simpa using b3 j p v hj) (KD.keys hcd k2)
    have kB:∀(es':List (AV×AV)) (en':Array MapEntry) (tY:Nat),en'.size=es'.length->(∀(i:Nat) p q,es'[i]? =some (p,q)->∃e,en'[i]? =some e/\R I L O p e.key/\R I L O q e.val)->
      Good I L O w I (λ k=>if k=n then L n else L k) (O.set n (.cN (.mp es'))) {w with heap:=w.heap.setIfInBounds (L n).bc (.map en' tY)}:=λ es' en' tY h1 h2=>
     hi.w7 (n:=n) (l:=L n) (g:= .mp es') (λ k=>by
       by_cases h:k=n
       ·subst h;rw[if_pos rfl];exact getElem?_set_self hn
       ·rw[if_neg h];exact getElem?_set_ne λ q=>h q.symm)
       (by simp) (λ b _ cr=>(MapKept.heap_set b1).2 b cr) rfl rfl rfl (by simp) (.inr ⟨_,hO,rfl,rfl⟩)
       (λ dp=>⟨en',tY,(MapKept.heap_set b1).1,h1,λ i p q hx=>by
        obtain⟨e,h3,h4,h5⟩:=h2 i p q hx;exact⟨e,h3,h4.mono dp,h5.mono dp⟩⟩)
    cases hq:kX kv es 0 with
    |none=>
     rw[hq]at hfm;have hms:Go.Ab.lT kv (av.ev e) es=es++ [(.v kv,av.ev e)]:=by unfold Go.Ab.lT;rw[hq]
     rw[hms]at k3;have bJ:=acd ht hu b1 xY (a.eval v) hfm;refine⟨_,_,undef,_,_,_,k3,kB _ (en.push ⟨kv,a.eval v,clock⟩) (clock+1) (by simp[b2]) (λ i p q hx=> ?_),.aK _ _ rfl (by simp),.inr ⟨?_,rfl⟩⟩;rotate_left
     ·simp[execOp,em,ek,fT.val,fT.kY,bJ,Result.andThen]
     ·by_cases ej:i<es.length
      ·rw[getElem?_append_left ej]at hx;obtain⟨e',h3,h4,h5⟩:=b3 i p q hx;exact⟨e',by rw[Array.getElem?_push];rw[if_neg (by omega)];exact h3,h4,h5⟩
      ·rw[getElem?_append_right (by omega)]at hx;cases hz:i- es.length with
       |succ z=>rw[hz]at hx;simp at hx
       |zero=>
        rw[hz]at hx;simp at hx;obtain⟨rfl,rfl⟩:=hx;exact⟨⟨kv,a.eval v,clock⟩,by rw[Array.getElem?_push];rw[if_pos (by omega)],rk,rv⟩
    |some p=>
     obtain⟨j,u0⟩:=p;rw[hq]at hfm;obtain⟨x0,hf,_⟩:=hfm;obtain⟨q0,k',hj,hes,hkb⟩:=acT es 0 j u0 hq;obtain rfl:j=q0:=by omega
     obtain⟨e0,h3,h4,_⟩:=b3 j _ _ hes
     have ax2:MapKept.IsKey u k':=by
      obtain⟨k'',h7,h8⟩:=KD.keys hcd k2 _ (mem_of_getElem? hes);cases h7;exact h8
     have hke:e0.key=kv:=by
      have:e0.key=k':=by cases h4;rfl
      rw[this];exact((xJ xY ax2).1 hkb).symm
     have hms:Go.Ab.lT kv (av.ev e) es=es.set j (.v kv,av.ev e):=by unfold Go.Ab.lT;rw[hq]
     rw[hms]at k3;have bJ:=acb ht hu b1 xY (a.eval v) hf h3 hke;refine⟨_,_,undef,_,_,_,k3,kB _ (en.modify j λ e=>{e with key:=kv,val:=a.eval v}) clock (by simp[b2]) (λ i p q hx=> ?_),.aK _ _ rfl (by simp),.inr ⟨?_,rfl⟩⟩;rotate_left
     ·simp[execOp,em,ek,fT.val,fT.kY,bJ,Result.andThen]
     ·by_cases hij:i=j
      ·subst hij;have au:=(List.getElem?_eq_some_iff.1 hes).1;rw[getElem?_set_self au]at hx;cases hx;exact⟨{e0 with key:=kv,val:=a.eval v},by rw[Array.getElem?_modify];simp[h3],rk,rv⟩
      ·rw[getElem?_set_ne (λ q=>hij q.symm)]at hx;obtain⟨e',h3',h4',h5'⟩:=b3 i p q hx;exact⟨e',by rw[Array.getElem?_modify];simp[h3',Ne.symm hij],h4',h5'⟩
   ·exact hk.elim
  ·exact hk.elim
 ·cases hc
theorem aeO(hi:Inv I L O w)(he:∀t,R I L O (e t) (a.tmps.getD t undef)){t:TypeId}{m k v:Operand}(hc:bR P ty (.insert t m k v)=some ao)(hk:wpOp P ao e O K):fx P I L O w (execOp a.eval ⟨d,.insert t m k v,ty,pos,af,g⟩) K:=
 acw (d:=d) (ty:=ty) (pos:=pos) (af:=af) (g:=g) hi he (t:=t) (m:=m) (k:=k) (v:=v) hc hk
end
end Go.Ab
