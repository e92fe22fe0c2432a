/- Part of a proof: the functions that the law reaches, walked by the abstract logic of the texts Ab. -/
import GoSem.Dispatch
import Derived.Tactics
import Derived.Below
import Derived.Laws.AppendOwn
import Derived.Laws.OwnMore
import Derived.Laws.MakeOwn
import Derived.Laws.Tables
import Derived.Laws.Cells
import Derived.Laws.IdiomStrings
open Nat(le_refl le_trans lt_of_lt_of_le add_zero add_mul mul_le_mul_right add_assoc)
open Option(bind_eq_bind bind_eq_some_iff pure_def map_eq_some_iff)
open List(getElem?_take getElem?_append_left getElem?_append_right length_take getElem?_eq_none getElem?_drop mapM_cons mem_of_getElem? append_assoc getElem?_toArray size_toArray)
set_option linter.unusedVariables false
set_option linter.unusedSimpArgs false
namespace Go.Ab
def te:List (Nat×Nat×Value):=[]
def pK:List (Nat×Nat):=[]
def anM(_:Nat)(_:Value):Bool:=true
abbrev eW:=Nat->Nat->Option Value
inductive AV where
 |top
 |v (x:Value)
 |an
 |sl (xs:List AV)
 |bW (x:AV) (f:Nat)
 |row (n len:Nat)
 |ptr (n len i f:Nat)
 |fn (f:FuncId) (bl:List AV)
 |agg (cs:List AV)
 |aZ (vs:List AV)
 |own (n:Nat)
 |xK
instance:Inhabited AV:=⟨.top⟩
def AV.cells:AV->List AV
 | .agg cs=>cs
 |x=>[x]
def AV.isAgg:AV->Bool
 | .agg _=>true
 |_=>false
def AV.cB:AV->Bool
 | .agg _| .aZ _| .top=>false
 |_=>true
inductive qE where
 |mp (es:List (AV×AV))
 |it (s:ByteArray) (pos:Nat)
def qE.ayF:qE->Bool
 | .mp _=>true
 | .it _ _=>false
def qE.val(g:qE)(b:Nat):Value:=if g.ayF=true then .map (some b)else .pointer (some ⟨b,0,none⟩)
theorem qE.val_one(g:qE)(b:Nat):(g.val b).oneCell'=true:=by cases g<;>rfl
inductive aj where
 |dead
 |nil (e s:Nat)
 |live (e s:Nat) (xs:List AV)
 |own (a:AV)
 |jq (g:qE)
instance:Inhabited aj:=⟨.dead⟩
structure Loc where
 bO:Nat
 cap:Nat
 val:Value
 mem:eW
abbrev Loc.at(b c:Nat):Loc:=⟨b,c,.slice none 0 0,λ _ _=>none⟩
@[simp] theorem Loc.aRU (b c:Nat):(Loc.at b c).bO=b:=rfl
@[simp] theorem Loc.aRT (b c:Nat):(Loc.at b c).cap=c:=rfl
inductive R(I:eW)(L:Nat->Loc)(O:List aj):AV->Value->Prop
 |top (x:Value):R I L O .top x
 |v (x:Value):x.oneCell'=true->R I L O (.v x) x
 |an:R I L O .an (.slice none 0 0)
 |oX (a:Option Addr) (cap:Nat):R I L O (.sl []) (.slice a 0 cap)
 |sl (xs:List AV) (bO off cap s:Nat) (cg:Nat->Nat->Value):xs.length<=cap->xs≠[]->
  (∀(i:Nat) (x:AV),xs[i]? =some x->x.cells.length=s)->
  (∀(i:Nat) (x:AV) (j:Nat) (c:AV),xs[i]? =some x->x.cells[j]? =some c->I bO (off+i*s+j)=some (cg i j)/\(cg i j).oneCell'=true)->
  (∀(i:Nat) (x:AV) (j:Nat) (c:AV),xs[i]? =some x->x.cells[j]? =some c->R I L O c (cg i j))->
  R I L O (.sl xs) (.slice (some ⟨bO,off,none⟩) xs.length cap)
 |bW (x:AV) (f bO base:Nat) (cg:Nat->Value):
  (∀(j:Nat) (c:AV),x.cells[j]? =some c->I bO (base+j)=some (cg j)/\(cg j).oneCell'=true)->
  (∀(j:Nat) (c:AV),x.cells[j]? =some c->R I L O c (cg j))->
  R I L O (.bW x f) (.pointer (some ⟨bO,base+f,none⟩))
 |dX (n len e s:Nat) (xs:List AV):O[n]? =some (.live e s xs)->xs.length=len->
  R I L O (.row n len) (.slice (some ⟨(L n).bO,0,none⟩) len (L n).cap)
 |im (n e s:Nat):O[n]? =some (.nil e s)->R I L O (.row n 0) (.slice none 0 0)
 |fk (n len:Nat) (x:Value):n<O.length->(∀e s,O[n]? ≠some (.nil e s))->(∀e s xs,O[n]? =some (.live e s xs)->len<xs.length)->x.oneCell'=true->
  R I L O (.row n len) x
 |fB (n len i f e s:Nat) (xs:List AV):O[n]? =some (.live e s xs)->xs.length=len->
  R I L O (.ptr n len i f) (.pointer (some ⟨(L n).bO,i*s+f,none⟩))
 |gW (n len i f:Nat) (x:Value):n<O.length->(∀e s,O[n]? ≠some (.nil e s))->(∀e s xs,O[n]? =some (.live e s xs)->len<xs.length)->x.oneCell'=true->
  R I L O (.ptr n len i f) x
 |fn (f:FuncId) (bl:List AV) (vs:Array Value):bl.length=vs.size->
  (∀(i:Nat) (c:AV) (x:Value),bl[i]? =some c->vs[i]? =some x->R I L O c x)->R I L O (.fn f bl) (.func (.func f) #[] vs)
 |agg (cs:List AV) (vs:Array Value):cs.length=vs.size->
  (∀(i:Nat) (c:AV) (x:Value),cs[i]? =some c->vs[i]? =some x->R I L O c x)->R I L O (.agg cs) (.agg vs)
 |aZ (cs:List AV) (vs:Array Value):cs.length=vs.size->
  (∀(i:Nat) (c:AV) (x:Value),cs[i]? =some c->vs[i]? =some x->R I L O c x)->R I L O (.aZ cs) (.tuple vs)
 |gX (n:Nat) (a:AV):O[n]? =some (.own a)->(L n).val.oneCell'=true->R I L O (.own n) (L n).val
 |ko (n:Nat) (g:qE):O[n]? =some (.jq g)->R I L O (.own n) (g.val (L n).bO)
 |fY (n:Nat) (x:Value):n<O.length->(∀a,O[n]? ≠some (.own a))->(∀g,O[n]? ≠some (.jq g))->x.oneCell'=true->R I L O (.own n) x
 |xK (t:TypeId) (x:Value):R I L O .xK (.iface t x)
structure Ext(I:eW)(L:Nat->Loc)(O:List aj)(I':eW)(L':Nat->Loc)(O':List aj):Prop where
 ni:∀b o x,I b o=some x->I' b o=some x
 len:O.length<=O'.length
 obj:∀n,n<O.length->∀e s xs,O'[n]? =some (.live e s xs)->(∃ys,O[n]? =some (.live e s ys)/\ys.length<=xs.length/\(ys.length=xs.length->L' n=L n))∨(O[n]? =some (.nil e s)/\xs≠[])
 nil:∀n,n<O.length->∀e s,O'[n]? =some (.nil e s)->O[n]? =some (.nil e s)
 own:∀n,n<O.length->∀a,O'[n]? =some (.own a)->(∃b,O[n]? =some (.own b))/\(L' n).val=(L n).val
 jq:∀n,n<O.length->∀g,O'[n]? =some (.jq g)->(∃h,O[n]? =some (.jq h)/\h.ayF=g.ayF)/\(L' n).bO=(L n).bO
theorem Ext.refl(I:eW)(L:Nat->Loc)(O:List aj):Ext I L O I L O:=
 ⟨λ _ _ _ h=>h,le_refl _,λ _ _ _ _ xs h=> .inl ⟨xs,h,le_refl _,λ _=>rfl⟩,λ _ _ _ _ h=>h,λ _ _ a h=>⟨⟨a,h⟩,rfl⟩,λ _ _ g h=>⟨⟨g,h,rfl⟩,rfl⟩⟩
theorem Ext.trans{I I' I'':eW}{L L' L'':Nat->Loc}{O O' zK:List aj}(h:Ext I L O I' L' O')(k:Ext I' L' O' I'' L'' zK):Ext I L O I'' L'' zK:=by
 refine⟨λ b o x hx=>k.ni _ _ _ (h.ni _ _ _ hx),le_trans h.len k.len,λ n hn e s xs hx=> ?_,λ n hn e s hx=>h.nil n hn e s (k.nil n (lt_of_lt_of_le hn h.len) e s hx),λ n hn a hx=> ?_,λ n hn g hx=> ?_⟩;rotate_left
 ·obtain⟨⟨b,hb⟩,h1⟩:=k.own n (lt_of_lt_of_le hn h.len) a hx;obtain⟨hc,h2⟩:=h.own n hn b hb;exact⟨hc,h1.trans h2⟩
 ·obtain⟨⟨b,hb,hk⟩,h1⟩:=k.jq n (lt_of_lt_of_le hn h.len) g hx;obtain⟨⟨c,hc,hm⟩,h2⟩:=h.jq n hn b hb;exact⟨⟨c,hc,hm.trans hk⟩,h1.trans h2⟩
 rcases k.obj n (lt_of_lt_of_le hn h.len) e s xs hx with⟨ys,hy,hle,hL⟩|⟨hy,ej⟩
 ·rcases h.obj n hn e s ys hy with⟨zs,hz,aHs,hL'⟩|⟨hz,ej⟩
  ·exact .inl ⟨zs,hz,le_trans aHs hle,λ he=>(hL (by omega)).trans (hL' (by omega))⟩
  ·refine .inr ⟨hz,λ h0=>ej ?_⟩;subst h0;exact List.eq_nil_of_length_eq_zero (by simpa using hle)
 ·exact .inr ⟨h.nil n hn e s hy,ej⟩
theorem Ext.aFm{I I':eW}{L L':Nat->Loc}{O O':List aj}(h:Ext I L O I' L' O'){n len:Nat}(hn:n<O.length)(hnn:∀e s,O[n]? ≠some (.nil e s))(hs:∀e s xs,O[n]? =some (.live e s xs)->len<xs.length):
  n<O'.length/\(∀e s,O'[n]? ≠some (.nil e s))/\∀e s xs,O'[n]? =some (.live e s xs)->len<xs.length:=by
 refine⟨lt_of_lt_of_le hn h.len,λ e s he=>hnn e s (h.nil n hn e s he),λ e s xs hx=> ?_⟩;rcases h.obj n hn e s xs hx with⟨ys,hy,hle,_⟩|⟨hy,_⟩
 ·exact lt_of_lt_of_le (hs e s ys hy) hle
 ·exact(hnn e s hy).elim
theorem Ext.live{I I':eW}{L L':Nat->Loc}{O O':List aj}(h:Ext I L O I' L' O'){n len e s:Nat}{xs:List AV}(hn:O[n]? =some (.live e s xs))(hl:xs.length=len):
  (∃ys,O'[n]? =some (.live e s ys)/\ys.length=len/\L' n=L n)∨(n<O'.length/\(∀e s,O'[n]? ≠some (.nil e s))/\∀e s xs,O'[n]? =some (.live e s xs)->len<xs.length):=by
 have aK:n<O.length:=(List.getElem?_eq_some_iff.1 hn).1;have zi:∀e s,O'[n]? ≠some (.nil e s):=λ e s he=>by have:=h.nil n aK e s he;rw[hn]at this;cases this
 by_cases hd:∃e' s' mW,O'[n]? =some (.live e' s' mW)
 ·obtain⟨e',s',mW,hx⟩:=hd;rcases h.obj n aK e' s' mW hx with⟨ys,hy,hle,hL⟩|⟨hy,_⟩
  ·rw[hn]at hy;cases hy;by_cases he:xs.length=mW.length
   ·exact .inl ⟨mW,hx,by omega,hL he⟩
   ·exact .inr ⟨lt_of_lt_of_le aK h.len,zi,λ e'' s'' aLz hx'=>by rw[hx]at hx';cases hx';omega⟩
  ·rw[hn]at hy;cases hy
 ·exact .inr ⟨lt_of_lt_of_le aK h.len,zi,λ e'' s'' aLz hx'=>(hd ⟨_,_,_,hx'⟩).elim⟩
theorem R.mono{I I':eW}{L L':Nat->Loc}{O O':List aj}(h:Ext I L O I' L' O'){a:AV}{x:Value}(hr:R I L O a x):R I' L' O' a x:=by
 induction hr with
 |top x=>exact .top x
 |v x hx=>exact .v x hx
 |an=>exact .an
 |xK t x=>exact .xK t x
 |oX a cap=>exact .oX a cap
 |sl xs bO off cap s cg h1 h2 h3 h4 _ ih=>exact .sl xs bO off cap s cg h1 h2 h3 (λ i x j c hi hj=>⟨h.ni _ _ _ (h4 i x j c hi hj).1,(h4 i x j c hi hj).2⟩) ih
 |bW x f bO base cg h1 _ ih=>exact .bW x f bO base cg (λ j c hj=>⟨h.ni _ _ _ (h1 j c hj).1,(h1 j c hj).2⟩) ih
 |dX n len e s xs hn hl=>
  rcases h.live hn hl with⟨ys,h1,h2,h3⟩|⟨h1,h2,h3⟩
  ·rw[←h3];exact .dX n len e s ys h1 h2
  ·exact .fk n len _ h1 h2 h3 rfl
 |im n e s hn=>
  have aK:n<O.length:=(List.getElem?_eq_some_iff.1 hn).1;by_cases hd:∃e' s',O'[n]? =some (.nil e' s')
  ·obtain⟨e',s',hx⟩:=hd;exact .im n e' s' hx
  ·refine .fk n 0 _ (lt_of_lt_of_le aK h.len) (λ e' s' he=>hd ⟨e',s',he⟩) (λ e' s' xs hx=> ?_) rfl;rcases h.obj n aK e' s' xs hx with⟨ys,hy,_⟩|⟨_,ej⟩
   ·rw[hn]at hy;cases hy
   ·exact List.length_pos_iff.2 ej
 |fk n len x hn hnn hs hx=>
  obtain⟨h1,h2,h3⟩:=h.aFm hn hnn hs;exact .fk n len x h1 h2 h3 hx
 |fB n len i f e s xs hn hl=>
  rcases h.live hn hl with⟨ys,h1,h2,h3⟩|⟨h1,h2,h3⟩
  ·rw[←h3];exact .fB n len i f e s ys h1 h2
  ·exact .gW n len i f _ h1 h2 h3 rfl
 |gW n len i f x hn hnn hs hx=>
  obtain⟨h1,h2,h3⟩:=h.aFm hn hnn hs;exact .gW n len i f x h1 h2 h3 hx
 |fn f bl vs h1 _ ih=>exact .fn f bl vs h1 ih
 |agg cs vs h1 _ ih=>exact .agg cs vs h1 ih
 |aZ cs vs h1 _ ih=>exact .aZ cs vs h1 ih
 |gX n a hn h1=>
  have aK:n<O.length:=(List.getElem?_eq_some_iff.1 hn).1;by_cases hd:∃b,O'[n]? =some (.own b)
  ·obtain⟨b,hb⟩:=hd;rw[←(h.own n aK b hb).2]at h1⊢;exact .gX n b hb h1
  ·refine .fY n _ (lt_of_lt_of_le aK h.len) (λ b hb=>hd ⟨b,hb⟩) (λ g hg=> ?_) h1;obtain⟨⟨c,hc,_⟩,_⟩:=h.jq n aK g hg;rw[hn]at hc;cases hc
 |ko n g hn=>
  have aK:n<O.length:=(List.getElem?_eq_some_iff.1 hn).1;by_cases hd:∃b,O'[n]? =some (.jq b)
  ·obtain⟨b,hb⟩:=hd;obtain⟨⟨c,hc,hk⟩,h2⟩:=h.jq n aK b hb;rw[hn]at hc;cases hc;have:g.val (L n).bO=b.val (L' n).bO:=by unfold qE.val;rw[hk,h2]
   rw[this];exact .ko n b hb
  ·refine .fY n _ (lt_of_lt_of_le aK h.len) (λ b hb=> ?_) (λ b hb=>hd ⟨b,hb⟩) (g.val_one _);obtain⟨⟨c,hc⟩,_⟩:=h.own n aK b hb;rw[hn]at hc;cases hc
 |fY n x hn cJ hng h1=>
  refine .fY n x (lt_of_lt_of_le hn h.len) (λ b hb=> ?_) (λ g hg=> ?_) h1
  ·obtain⟨⟨c,hc⟩,_⟩:=h.own n hn b hb;exact cJ c hc
  ·obtain⟨⟨c,hc,_⟩,_⟩:=h.jq n hn g hg;exact hng c hc
def Mk(m:Nat×Nat)(n s:Nat):Prop:=m=(0,0)∨(m=(n,n+1)/\s=1)
def tX(I:eW)(L:Nat->Loc)(O:List aj)(w:World)(l:Loc)(e s:Nat)(xs:List AV):Prop:=
 ∃c:Array Value,(∃m,w.heap[l.bO]? =some (.cells c e m)/\Mk m c.size s)/\c.size=l.cap*s/\xs.length<=l.cap/\l.cap<=maxLen/\0<s/\
  ∀(i:Nat) x,xs[i]? =some x->x.cells.length=s/\∀(j:Nat) a,x.cells[j]? =some a->∃y,c[i*s+j]? =some y/\y.oneCell'=true/\R I L O a y
def nW(w:World)(b:Nat):Option Nat:=
 match w.heap[b]? with
 |some (.cells c _ _)=>some c.size
 |_=>none
theorem nG{w:World}{b o:Nat}{x:Value}(h:w.cell? ⟨b,o,none⟩=some x):b<w.heap.size:=by
 unfold World.cell? at h
 split at h
 ·rename_i c e f hh;exact(Array.getElem?_eq_some_iff.1 hh).1
 ·cases h
inductive OT(w:World):AV->Value->(Nat->Prop)->Prop
 |v (x:Value):x.oneCell'=true->OT w (.v x) x λ _=>False
 |an:OT w .an (.slice none 0 0) λ _=>False
 |oX (a:Option Addr) (cap:Nat):OT w (.sl []) (.slice a 0 cap) λ _=>False
 |sl (xs:List AV) (bO cap s e:Nat) (c:Array Value) (cg:Nat->Nat->Value) (S:Nat->Nat->Nat->Prop) (m:Nat×Nat):
  w.heap[bO]? =some (.cells c e m)->Mk m c.size s->c.size=cap*s->xs.length<=cap->cap<=maxLen->0<s->xs≠[]->
  (∀(i:Nat) (x:AV),xs[i]? =some x->x.cells.length=s)->
  (∀(i:Nat) (x:AV) (j:Nat) (a:AV),xs[i]? =some x->x.cells[j]? =some a->c[i*s+j]? =some (cg i j)/\(cg i j).oneCell'=true)->
  (∀(i:Nat) (x:AV) (j:Nat) (a:AV),xs[i]? =some x->x.cells[j]? =some a->OT w a (cg i j) (S i j))->
  (∀i j b,S i j b->∃x a,xs[i]? =some x/\x.cells[j]? =some a)->(∀i j,¬S i j bO)->(∀i j i' j' b,S i j b->S i' j' b->i=i'/\j=j')->
  OT w (.sl xs) (.slice (some ⟨bO,0,none⟩) xs.length cap) λ b=>b=bO∨∃i j,S i j b
theorem OT.congr{w w':World}{a:AV}{x:Value}{S:Nat->Prop}(h:OT w a x S):(∀b,S b->w'.heap[b]? =w.heap[b]?)->OT w' a x S:=by
 induction h with
 |v x h=>intro _;exact .v x h
 |an=>intro _;exact .an
 |oX a cap=>intro _;exact .oX a cap
 |sl xs bO cap s e c cg S m h1 hmk h2 h3 h4 h5 h6 h7 h8 h9 h10 h11 h12 ih=>
  intro hw;exact .sl xs bO cap s e c cg S m ((hw bO (.inl rfl)).trans h1) hmk h2 h3 h4 h5 h6 h7 h8 (λ i x j a hx ha=>ih i x j a hx ha λ b hb=>hw b (.inr ⟨i,j,hb⟩)) h10 h11 h12
theorem OT.read{w:World}{a:AV}{x:Value}{S:Nat->Prop}(h:OT w a x S):∀(I:eW) (L:Nat->Loc) (O:List aj),(∀b o v,S b->w.cell? ⟨b,o,none⟩=some v->I b o=some v)->R I L O a x:=by
 induction h with
 |v x h=>intro I L O _;exact .v x h
 |an=>intro I L O _;exact .an
 |oX a cap=>intro I L O _;exact .oX a cap
 |sl xs bO cap s e c cg S m h1 hmk h2 h3 h4 h5 h6 h7 h8 h9 h10 h11 h12 ih=>
  intro I L O hI;refine .sl xs bO 0 cap s cg h3 h6 h7 (λ i x j a hx ha=>⟨hI bO _ _ (.inl rfl) ?_,(h8 i x j a hx ha).2⟩) λ i x j a hx ha=>ih i x j a hx ha I L O λ b o v hb hv=>hI b o v (.inr ⟨i,j,hb⟩) hv
  unfold World.cell?;simp[h1,(h8 i x j a hx ha).1]
structure Own(I:eW)(L:Nat->Loc)(O:List aj)(w:World):Prop where
 tree:∀(n:Nat) (a:AV),O[n]? =some (.own a)->∀L' O',R (L n).mem L' O' a (L n).val
 cell:∀(n:Nat) (a:AV),O[n]? =some (.own a)->∀b o v,(L n).mem b o=some v->w.cell? ⟨b,o,none⟩=some v
 ni:∀(n:Nat) (a:AV),O[n]? =some (.own a)->∀b o v,(L n).mem b o=some v->∀o',I b o'=none
 live:∀(n:Nat) (a:AV),O[n]? =some (.own a)->∀b o v,(L n).mem b o=some v->∀(m e s:Nat) (xs:List AV),O[m]? =some (.live e s xs)->(L m).bO≠b
 sep:∀(n m:Nat) (a c:AV),O[n]? =some (.own a)->O[m]? =some (.own c)->∀b o o' v v',(L n).mem b o=some v->(L m).mem b o'=some v'->n=m
 deep:∀(n:Nat) (a:AV),O[n]? =some (.own a)->∃S:Nat->Prop,OT w a (L n).val S/\∀b,S b↔∃o v,(L n).mem b o=some v
def LV(L:Nat->Loc)(O:List aj)(b:Nat):Prop:=∃(n:Nat) (e s:Nat) (xs:List AV),O[n]? =some (.live e s xs)/\(L n).bO=b
def OB(L:Nat->Loc)(O:List aj)(b:Nat):Prop:=∃(n:Nat) (a:AV) (o:Nat) (v:Value),O[n]? =some (.own a)/\(L n).mem b o=some v
theorem Own.no{I:eW}{L:Nat->Loc}{O:List aj}{w:World}(h:∀(n:Nat) (a:AV),O[n]? ≠some (.own a)):Own I L O w:=
 ⟨λ n a hn=>(h n a hn).elim,λ n a hn=>(h n a hn).elim,λ n a hn=>(h n a hn).elim,λ n a hn=>(h n a hn).elim,λ n _ a _ hn=>(h n a hn).elim,λ n a hn=>(h n a hn).elim⟩
theorem Own.aFl{I I':eW}{L L':Nat->Loc}{O O':List aj}{w w':World}(h:Own I L O w)
  (hO:∀(n:Nat) (a:AV),O'[n]? =some (.own a)->O[n]? =some (.own a)/\L' n=L n)
  (hI:∀b o v,I' b o=some v->(∃o v,I b o=some v)∨LV L O b∨w.heap.size<=b∨∃(n:Nat) (a:AV) (o:Nat) (v:Value),O[n]? =some (.own a)/\(L n).mem b o=some v/\∀c,O'[n]? ≠some (.own c))
  (hL:∀(m e s:Nat) (xs:List AV),O'[m]? =some (.live e s xs)->LV L O (L' m).bO∨w.heap.size<=(L' m).bO)
  (hw:∀b,b<w.heap.size->¬LV L O b->w'.heap[b]? =w.heap[b]?):Own I' L' O' w':=by
 have key:∀(n:Nat) (a:AV),O'[n]? =some (.own a)->∀b o v,(L' n).mem b o=some v->(L n).mem b o=some v/\b<w.heap.size/\¬LV L O b:=λ n a hn b o v hv=>by
  obtain⟨h1,h2⟩:=hO n a hn;rw[h2]at hv;exact⟨hv,nG (h.cell n a h1 b o v hv),λ ⟨m,e,s,xs,hm,hb⟩=>h.live n a h1 b o v hv m e s xs hm hb⟩
 refine⟨λ n a hn=> ?_,λ n a hn b o v hv=> ?_,λ n a hn b o v hv o'=> ?_,λ n a hn b o v hv m e s xs hm hb=> ?_,λ n m a c hn hm b o o' v v' hv hv'=> ?_,λ n a hn=> ?_⟩
 ·obtain⟨h1,h2⟩:=hO n a hn;rw[h2];exact h.tree n a h1
 ·obtain⟨h0,h1,h2⟩:=key n a hn b o v hv;have:=h.cell n a (hO n a hn).1 b o v h0;rw[←this];exact World.cell?_of_block (a:=⟨b,o,none⟩) (hw b h1 h2)
 ·obtain⟨h0,h1,h2⟩:=key n a hn b o v hv;cases hq:I' b o' with
  |none=>rfl
  |some u=>
   rcases hI b o' u hq with⟨o2,v2,h3⟩|h3|h3|⟨m,c,o2,v2,h3,h4,h5⟩
   ·rw[h.ni n a (hO n a hn).1 b o v h0 o2]at h3;cases h3
   ·exact(h2 h3).elim
   ·omega
   ·have:=h.sep n m a c (hO n a hn).1 h3 b o o2 v v2 h0 h4;subst this;exact(h5 a hn).elim
 ·obtain⟨h0,h1,h2⟩:=key n a hn b o v hv;rcases hL m e s xs hm with h3|h3
  ·rw[hb]at h3;exact h2 h3
  ·omega
 ·exact h.sep n m a c (hO n a hn).1 (hO m c hm).1 b o o' v v' (key n a hn b o v hv).1 (key m c hm b o' v' hv').1
 ·obtain⟨S,h1,h2⟩:=h.deep n a (hO n a hn).1;rw[(hO n a hn).2];refine⟨S,h1.congr λ b hb=> ?_,h2⟩;obtain⟨o,v,hv⟩:=(h2 b).1 hb;obtain⟨_,h3,h4⟩:=key n a hn b o v (by rw[(hO n a hn).2];exact hv);exact hw b h3 h4
theorem Own.step{I I':eW}{L L':Nat->Loc}{O O':List aj}{w w':World}(h:Own I L O w)
  (hO:∀(n:Nat) (a:AV),O'[n]? =some (.own a)->O[n]? =some (.own a)/\L' n=L n)
  (hI:∀b o v,I' b o=some v->(∃o v,I b o=some v)∨LV L O b∨w.heap.size<=b)
  (hL:∀(m e s:Nat) (xs:List AV),O'[m]? =some (.live e s xs)->LV L O (L' m).bO∨w.heap.size<=(L' m).bO)
  (hw:∀b,b<w.heap.size->¬LV L O b->w'.heap[b]? =w.heap[b]?):Own I' L' O' w':=
 h.aFl hO (λ b o v hv=>by
   rcases hI b o v hv with h1|h1|h1
   ·exact .inl h1
   ·exact .inr (.inl h1)
   ·exact .inr (.inr (.inl h1))) hL hw
theorem Own.same{I I':eW}{L L':Nat->Loc}{O O':List aj}{w w':World}(h:Own I L O w)
  (hO:∀(n:Nat) (a:AV),O'[n]? =some (.own a)->O[n]? =some (.own a)/\L' n=L n)
  (hI:∀b o v,I' b o=some v->(∃o v,I b o=some v)∨LV L O b∨w.heap.size<=b)
  (hL:∀(m e s:Nat) (xs:List AV),O'[m]? =some (.live e s xs)->LV L O (L' m).bO∨w.heap.size<=(L' m).bO) (hw:w'=w):Own I' L' O' w':=
 h.step hO hI hL λ _ _ _=>by rw[hw]
theorem Own.keep{I:eW}{L:Nat->Loc}{O:List aj}{w w':World}(h:Own I L O w)(hw:∀b,b<w.heap.size->¬LV L O b->w'.heap[b]? =w.heap[b]?):Own I L O w':=
 h.step (λ _ _ h=>⟨h,rfl⟩) (λ _ o v hv=> .inl ⟨o,v,hv⟩) (λ m e s xs h=> .inl ⟨m,e,s,xs,h,rfl⟩) hw
def zL(I:eW)(L:Nat->Loc)(O:List aj)(w:World)(l:Loc):qE->Prop
 | .mp es=>∃(en:Array MapEntry) (clock:Nat),w.heap[l.bO]? =some (.map en clock)/\en.size=es.length/\∀(i:Nat) k v,es[i]? =some (k,v)->∃e,en[i]? =some e/\R I L O k e.key/\R I L O v e.val
 | .it s pos=>w.heap[l.bO]? =some (.stringIter s pos)
def adl(w:World)(b:Nat):Prop:=b<w.heap.size/\∀c e z,w.heap[b]? ≠some (.cells c e z)
theorem zL.no{I:eW}{L:Nat->Loc}{O:List aj}{w:World}{l:Loc}{g:qE}(h:zL I L O w l g):adl w l.bO:=by
 cases g with
 |mp es=>
  obtain⟨en,c,h1,_⟩:=h;exact⟨(Array.getElem?_eq_some_iff.1 h1).1,λ c e z hc=>by rw[h1]at hc;cases hc⟩
 |it s p=>exact⟨(Array.getElem?_eq_some_iff.1 h).1,λ c e z hc=>by rw[show w.heap[l.bO]? =_ from h]at hc;cases hc⟩
theorem adl.cell{w:World}{b o:Nat}(h:adl w b):w.cell? ⟨b,o,none⟩=none:=by
 unfold World.cell?
 split
 ·rename_i c e f hh;exact(h.2 _ _ _ hh).elim
 ·rfl
structure Gh(I:eW)(L:Nat->Loc)(O:List aj)(w:World):Prop where
 ok:∀(n:Nat) (g:qE),O[n]? =some (.jq g)->zL I L O w (L n) g
 sep:∀(n m:Nat) (g h:qE),O[n]? =some (.jq g)->O[m]? =some (.jq h)->(L n).bO=(L m).bO->n=m
def GB(L:Nat->Loc)(O:List aj)(b:Nat):Prop:=∃(n:Nat) (g:qE),O[n]? =some (.jq g)/\(L n).bO=b
theorem Gh.no{I:eW}{L:Nat->Loc}{O:List aj}{w:World}(h:∀(n:Nat) (g:qE),O[n]? ≠some (.jq g)):Gh I L O w:=
 ⟨λ n a hn=>(h n a hn).elim,λ n _ a _ hn=>(h n a hn).elim⟩
theorem zL.mono{I I':eW}{L L':Nat->Loc}{O O':List aj}{w w':World}{l l':Loc}{g:qE}(h:zL I L O w l g)(hl:l'.bO=l.bO)(hR:∀a x,R I L O a x->R I' L' O' a x)(hw:w'.heap[l.bO]? =w.heap[l.bO]?):zL I' L' O' w' l' g:=by
 cases g with
 |mp es=>
  obtain⟨en,c,h1,h2,h3⟩:=h;refine⟨en,c,by rw[hl,hw];exact h1,h2,λ i k v hi=> ?_⟩;obtain⟨e,h4,h5,h6⟩:=h3 i k v hi;exact⟨e,h4,hR _ _ h5,hR _ _ h6⟩
 |it s p=>
  have h0:w.heap[l.bO]? =some (.stringIter s p):=h
  show w'.heap[l'.bO]? =some (.stringIter s p);rw[hl,hw];exact h0
theorem Gh.step{I I':eW}{L L':Nat->Loc}{O O':List aj}{w w':World}(h:Gh I L O w)
  (hO:∀(n:Nat) (g:qE),O'[n]? =some (.jq g)->O[n]? =some (.jq g)/\(L' n).bO=(L n).bO)
  (hR:∀a x,R I L O a x->R I' L' O' a x)
  (hw:∀b,adl w b->w'.heap[b]? =w.heap[b]?):Gh I' L' O' w':=by
 refine⟨λ n g hn=> ?_,λ n m g k hn hm hb=> ?_⟩
 ·obtain⟨h1,h2⟩:=hO n g hn;exact(h.ok n g h1).mono h2 hR (hw _ (h.ok n g h1).no)
 ·obtain⟨h1,h2⟩:=hO n g hn;obtain⟨h3,h4⟩:=hO m k hm;exact h.sep n m g k h1 h3 (by rw[←h2,←h4];exact hb)
structure Inv(I:eW)(L:Nat->Loc)(O:List aj)(w:World):Prop where
 ni:∀b o x,I b o=some x->w.cell? ⟨b,o,none⟩=some x
 obj:∀(n:Nat) e s xs,O[n]? =some (.live e s xs)->tX I L O w (L n) e s xs
 sep:∀(n m:Nat) e s xs e' s' ys,O[n]? =some (.live e s xs)->O[m]? =some (.live e' s' ys)->(L n).bO=(L m).bO->n=m
 gf:∀(n:Nat) e s xs o,O[n]? =some (.live e s xs)->I (L n).bO o=none
 fix:∀p∈te,I p.1 p.2.1=some p.2.2
 bO:∀q∈pK,nW w q.1=some q.2/\∃v,I q.1 0=some v/\anM q.1 v=true
 ow:Own I L O w
 gh:Gh I L O w
def LB(L:Nat->Loc)(O:List aj)(b:Nat):Prop:=LV L O b∨OB L O b∨GB L O b
theorem vu{L:Nat->Loc}{b:Nat}:¬LB L [] b:=by
 rintro(⟨n,e,s,xs,h,_⟩|⟨n,a,o,v,h,_⟩|⟨n,g,h,_⟩)<;>simp at h
structure Frm(own:Nat->Prop)(w w':World):Prop where
 os:w'.os=w.os
 tape:w'.tape=w.tape
 output:w'.output=w.output
 size:w.heap.size<=w'.heap.size
 block:∀b,b<w.heap.size->¬own b->w'.heap[b]? =w.heap[b]?
theorem Frm.refl(own:Nat->Prop)(w:World):Frm own w w:=⟨rfl,rfl,rfl,le_refl _,λ _ _ _=>rfl⟩
theorem Frm.trans{own aMj:Nat->Prop}{w w' w'':World}(h:Frm own w w')(k:Frm aMj w' w'')(ho:∀b,aMj b->own b∨w.heap.size<=b):Frm own w w'':=
 ⟨k.os.trans h.os,k.tape.trans h.tape,k.output.trans h.output,le_trans h.size k.size,λ b hb hn=>
   (k.block b (lt_of_lt_of_le hb h.size) (λ hc=>by rcases ho b hc with h1|h1<;>first|exact hn h1|omega)).trans (h.block b hb hn)⟩
theorem aqB{w:World}{b n:Nat}(h:nW w b=some n):b<w.heap.size:=by
 unfold nW at h
 split at h
 ·rename_i hq;exact(Array.getElem?_eq_some_iff.1 hq).1
 ·cases h
theorem af6{w w':World}{b:Nat}(h:w'.heap[b]? =w.heap[b]?):nW w' b=nW w b:=by
 unfold nW;rw[h]
theorem Inv.zF{I I':eW}{L:Nat->Loc}{O:List aj}{w w':World}(hi:Inv I L O w)(hw:∀b,b<w.heap.size->¬LB L O b->w'.heap[b]? =w.heap[b]?)(hI:∀b o x,I b o=some x->I' b o=some x):
  ∀q∈pK,nW w' q.1=some q.2/\∃v,I' q.1 0=some v/\anM q.1 v=true:=by
 intro q hq;obtain⟨h1,v,h2,h3⟩:=hi.bO q hq;refine⟨?_,v,hI _ _ _ h2,h3⟩;rw[af6 (hw q.1 (aqB h1) ?_)]
 ·exact h1
 ·rintro(⟨n,e,s,xs,hn,hb⟩|⟨n,a,o,u,hn,hb⟩|⟨n,g,hn,hb⟩)
  rotate_right
  ·have h4:=(hi.gh.ok n g hn).no.cell (o:=0);rw[hb,hi.ni _ _ _ h2]at h4;cases h4
  ·have:=hi.gf n e s xs 0 hn;rw[hb,h2]at this;cases this
  ·have:=hi.ow.ni n a hn q.1 o u hb 0;rw[h2]at this;cases this
theorem Inv.zE{I I':eW}{L:Nat->Loc}{O:List aj}{w:World}(hi:Inv I L O w)(hI:∀b o x,I b o=some x->I' b o=some x):
 ∀q∈pK,nW w q.1=some q.2/\∃v,I' q.1 0=some v/\anM q.1 v=true:=hi.zF (λ _ _ _=>rfl) hI
theorem Frm.below{w w':World}(h:Frm (λ _=>False) w w'):RowKit.Below w.heap.size w w':=
 ⟨h.os,h.tape,h.output,h.size,λ k hk=>h.block k hk (λ x=>x)⟩
def RL(I:eW)(L:Nat->Loc)(O:List aj)(as:List AV)(vs:Array Value):Prop:=
 as.length=vs.size/\∀(i:Nat) a x,as[i]? =some a->vs[i]? =some x->R I L O a x
structure Good(I:eW)(L:Nat->Loc)(O:List aj)(w:World)(I':eW)(L':Nat->Loc)(O':List aj)(w':World):Prop where
 inv:Inv I' L' O' w'
 ext:Ext I L O I' L' O'
 tV:Frm (LB L O) w w'
 lb:∀b,LB L' O' b->LB L O b∨w.heap.size<=b
 nE:∀b o x,I' b o=some x->I b o=some x∨LB L O b∨w.heap.size<=b
def Enters(P:Program)(f:FuncId):Prop:=∃fn,P.funcs[f]? =some fn/\fn.body.isSome=true/\(fn.name== "runtime.NumGoroutine")=false
def j7(P:Program)(f:FuncId)(args:List AV)(O:List aj)(res:AV)(O':List aj):Prop:=
 Enters P f/\∀I L w vs,Inv I L O w->RL I L O args vs->Calls P f vs w λ e w'=>∃y I' L',e= .returned y/\R I' L' O' res y/\Good I L O w I' L' O' w'
def aW(P:Program)(f:FuncId)(args:List AV)(res:AV):Prop:=j7 P f args [] res []
theorem Mk.free{m:Nat×Nat}{n s j:Nat}(h:Mk m n s)(hj:j<n):(decide (m.1<=j)&&decide (j<m.2))=false:=by
 rcases h with rfl|⟨rfl,_⟩<;>simp<;>omega
theorem Mk.size{m:Nat×Nat}{n s k:Nat}(h:Mk m n s)(he:k=n):Mk m k s:=he▸h
theorem ny{P:Program}(g o s:Nat)(t:TypeId)(m:Nat×Nat):∀(vs:List Value) (i:Nat) (cur:Array Value) (w:World),w.heap[g]? =some (.cells cur t m)->Mk m cur.size s->o+i+vs.length<=cur.size->(∀v∈vs,v.oneCell'=true)->
  (storeCells ⟨g,o,none⟩ vs i).run P w= .ok () (w.setRow g (cur.toList.take (o+i)++vs++cur.toList.drop (o+i+vs.length)).toArray)
 | [],i,cur,w,hg,_,_,_=>by
   simp only[storeCells,List.append_nil,List.length_nil,add_zero,List.take_append_drop,Array.toArray_toList];rw[setRow_self w g cur t m hg]
   rfl
 |v::rest,i,cur,w,hg,hm,hl,h1=>by
  have hl':o+i+(rest.length+1)<=cur.size:=by simpa using hl
  have hi:o+i<cur.size:=by omega
  have aRi:(⟨g,o,none⟩:Addr).add i=⟨g,o+i,none⟩:=by unfold Addr.add;split<;>simp_all
  have aQV:w.frozen? ⟨g,o+i,none⟩=false:=by
   obtain⟨lo,up⟩:=m;have:=hm.free hi;simpa [World.frozen?,hg]using this
  have nQ:(store ((⟨g,o,none⟩:Addr).add i) v).run P w= .ok () (w.setRow g (cur.setIfInBounds (o+i) v)):=by
   rw[aRi,run_store P w _ v _ (h1 v (by simp)),show w.cell? ⟨g,o+i,none⟩=some cur[o+i] by simp[World.cell?,hg,hi]];simp[aQV,setCell_eq_setRow w g (o+i) cur t m v hg]
  have ih:=ny (P:=P) g o s t m rest (i+1) (cur.setIfInBounds (o+i) v) (w.setRow g (cur.setIfInBounds (o+i) v)) (setRow_heap w g cur _ t _ hg) (hm.size (by simp)) (by simp;omega) (λ x hx=>h1 x (by simp[hx]));simp only[storeCells,Sem.run_bind,nQ,Result.andThen_ok,ih,setRow_setRow];congr 3
  have aQ3:∀(c:List Value),o+i+(rest.length+1)<=c.length->(c.set (o+i) v).take (o+(i+1))++rest++(c.set (o+i) v).drop (o+(i+1)+rest.length)=c.take (o+i)++v::rest++c.drop (o+i+(rest.length+1)):=by
   intro c hc
   have e1:(c.set (o+i) v).take (o+(i+1))=c.take (o+i)++ [v]:=by
    apply List.ext_getElem?;intro k;by_cases hk:k<o+i
    ·rw[getElem?_take,if_pos (by omega),List.getElem?_set_ne (by omega),getElem?_append_left (by simp;omega),getElem?_take,if_pos hk]
    ·by_cases hk2:k=o+i
     ·subst hk2;rw[getElem?_take,if_pos (by omega),List.getElem?_set_self (by omega),getElem?_append_right (by simp;omega),length_take];simp[Nat.min_eq_left (show o+i<=c.length by omega)]
     ·rw[getElem?_take,if_neg (by omega),getElem?_eq_none (by simp;omega)]
   have e2:(c.set (o+i) v).drop (o+(i+1)+rest.length)=c.drop (o+i+(rest.length+1)):=by
    apply List.ext_getElem?;intro k;rw[getElem?_drop,getElem?_drop,List.getElem?_set_ne (by omega)];congr 1;omega
   rw[e1,e2];simp
  have:=aQ3 cur.toList (by simpa using hl');simpa [Array.toList_setIfInBounds]using this
theorem yC{P:Program}(w:World)(t ty e:TypeId)(i:TypeInfo)(ht:P.underlying t=some (.slice e))(hi:P.info? e=some i){m0:Nat×Nat}{s:Nat}
  (g ao5 aGw:Nat) (cur:Array Value) (hg:w.heap[g]? =some (.cells cur e m0)) (hmk:Mk m0 cur.size s)
  (a:Addr) (m c:Nat) (news:List Value) (hl:news.length=m*i.size) (aNg:∀j u,news[j]? =some u->w.cell? (a.add j)=some u) (h1:∀u∈news,u.oneCell'=true)
  (abM:ao5+m<=aGw) (cV:ao5*i.size+news.length<=cur.size):
  (Builtin.append_ #[t,t] ty #[.slice (some ⟨g,0,none⟩) ao5 aGw,.slice (some a) m c]).run P w=
   .ok (.slice (some ⟨g,0,none⟩) (ao5+m) aGw) (w.setRow g (cur.toList.take (ao5*i.size)++news++cur.toList.drop (ao5*i.size+news.length)).toArray):=by
 have hf:=run_firstCells_some (P:=P) w i.size m a m c news hl aNg;have nQ:=ny (P:=P) g (ao5*i.size) s e m0 news 0 cur w hg hmk (by simpa using cV) h1;simp only[add_zero]at nQ;simp[Builtin.append_,run_underlying ht,sizeOf,typeInfo,hi,Builtin.lenOf,abM,hf,Addr.add_lit,nQ]
mutual
def AV.bL(s:Nat->Nat):AV->AV
 | .top=> .top
 | .v x=> .v x
 | .an=> .an
 | .xK=> .xK
 | .sl xs=> .sl (AV.mZ s xs)
 | .bW x f=> .bW (x.bL s) f
 | .row n l=> .row (s n) l
 | .ptr n l i f=> .ptr (s n) l i f
 | .fn f cs=> .fn f (AV.mZ s cs)
 | .agg cs=> .agg (AV.mZ s cs)
 | .aZ cs=> .aZ (AV.mZ s cs)
 | .own n=> .own (s n)
def AV.mZ(s:Nat->Nat):List AV->List AV
 | []=>[]
 |x::xs=>x.bL s::AV.mZ s xs
end
def qE.bL(s:Nat->Nat):qE->qE
 | .mp es=> .mp (es.map λ p=>(p.1.bL s,p.2.bL s))
 | .it a b=> .it a b
theorem qE.aez(s:Nat->Nat)(g:qE):(g.bL s).ayF=g.ayF:=by cases g<;>rfl
def aj.bL(s:Nat->Nat):aj->aj
 | .jq g=> .jq (g.bL s)
 | .dead=> .dead
 | .nil e s=> .nil e s
 | .live e k xs=> .live e k (xs.map (AV.bL s))
 | .own a=> .own a
inductive D where
 |x (i:Nat)
 |c (a:AV)
 |cell (i j:Nat)
 |ext (i j:Nat)
 |sl (l:D)
 |agg (l:List D)
 |fn (f:FuncId) (l:List D)
 |ip (d:D) (f:Nat)
instance:Inhabited D:=⟨.x 0⟩
inductive SV where
 |d (x:D)
 |row (n:Nat) (l:D)
 |ptr (n f:Nat)
 |rp (n:Nat) (l i:D) (f:Nat)
 |ip (x:D) (f:Nat)
 |agg (cs:List SV)
 |aZ (cs:List SV)
 |top
instance:Inhabited SV:=⟨.top⟩
inductive SO where
 |dead
 |box (e:Nat) (cs:List SV)
 |row (nl:Bool) (e s:Nat) (l:D)
instance:Inhabited SO:=⟨.dead⟩
structure eK where
 n:Nat
 args:List SV
 aE:List SO
 m:Nat
 res:SV
 da:List SO
 keep:List Nat
inductive bj where
 |t (n:Nat)
 |c (a:AV)
abbrev Env:=Nat->AV
def Env.set(e:Env)(t:Nat)(a:AV):Env:=λ k=>if k=t then a else e k
def bj.ev(e:Env):bj->AV
 | .t n=>e n
 | .c a=>a
def cA(n:Option Nat)(x:AV)(f:Nat):AV:=
 match n with
 |none=>x.cells.getD f .top
 |some m=>if f=0/\x.isAgg=true/\x.cells.length=m then x else .agg ((x.cells.drop f).take m)
def ua(x:AV)(f:Nat)(y:AV):AV:=
 if f=0/\y.cells.length=x.cells.length then y else .agg (x.cells.take f++y.cells++x.cells.drop (f+y.cells.length))
def AV.storable(x:AV):Bool:=x.cells.all AV.cB
inductive PU where
 |b2s
 |qk (neg:Bool)
 |aaC (neg:Bool)
 |aaD (neg:Bool)
 |min
 |max
 |az5
def u8s:List AV->Option (List UInt8)
 | []=>some []
 | .v (.int .u8 n)::r=>(u8s r).map (UInt8.ofNat n.toNat::·)
 |_=>none
def zR(o:PU)(xs:List AV):Option AV:=
 match o,xs with
 | .b2s,[.sl ys]=>(u8s ys).map λ l=> .v (.string ⟨l.toArray⟩)
 | .b2s,[.an]=>some (.v (.string ⟨#[]⟩))
 | .az5,[.an]=>some (.v (.int .i64 0))
 | .qk neg,[.an]=>some (.v (.bool (neg !=true)))
 | .qk neg,[.sl (_::_)]=>some (.v (.bool (neg !=false)))
 | .aaC neg,[.v (.pointer none)]=>some (.v (.bool (neg !=true)))
 | .aaC neg,[.bW _ _]=>some (.v (.bool (neg !=false)))
 | .aaD neg,[.v .nilIface]=>some (.v (.bool (neg !=true)))
 | .aaD neg,[.xK]=>some (.v (.bool (neg !=false)))
 | .min,[.v (.int k a),.v (.int k' b)]=>if k=k' then some (.v (.int k (if b<a then b else a)))else none
 | .max,[.v (.int k a),.v (.int k' b)]=>if k=k' then some (.v (.int k (if a<b then b else a)))else none
 |_,_=>none
def puK(o:PU)(xs:List AV)(K:AV->Prop):Prop:=
 match zR o xs with
 |some v=>K v
 |none=>False
inductive gj where
 |stuck
 |ep (e s len:Nat) (z:AV) (parts:List (Nat×bj))
 |pu (o:PU) (args:List bj)
 |bD (x:bj)
 |pick (c a b:bj)
 |alloc (e s:Nat) (z:AV)
 |box (e s:Nat) (x:bj)
 |build (z:List AV) (parts:List (Nat×Nat×bj))
 |buildSlice (e s len:Nat) (z:AV) (parts:List (Nat×bj))
 |load (n:Option Nat) (x:bj)
 |store (m:Nat) (x y:bj)
 |bin (op:BinOp) (x y:bj)
 |beq (neg:Bool) (x y:bj)
 |un (op:UnOp) (x:bj)
 |mS (k:IntKind) (x:bj)
 |bX (off:Nat) (x:bj)
 |zq (off:Nat) (n:Option Nat) (x:bj)
 |dO (s:Nat) (x i:bj)
 |lU (x i:bj)
 |fX (x:bj) (lo hi:Option bj)
 |cj (s:Nat) (x:bj) (lo hi:Option bj)
 |acQ (s:Nat) (x h m:bj)
 |oz (x:bj)
 |ch (x:bj)
 |app (e s bytes:Nat) (x y:bj)
 |ext (x:bj) (i:Nat)
 |acu (x:bj)
 |aau (f:FuncId) (bl:List bj)
 |call (f:FuncId) (args:List bj)
 |ib (x:bj) (args:List bj)
 |qd (f:FuncId) (args:List bj)
 |mN (x:bj) (args:List bj)
 |fA (f:FuncId) (args:List bj)
 |p9 (f:FuncId) (args:List bj)
 |gq (nl:Bool) (e s:Nat) (f:FuncId) (args:List bj)
 |jo (k e s:Nat) (z:AV)
 |alh (e s bytes:Nat) (z:AV) (x n:bj)
 |cut (s:Nat) (x:bj) (lo hi:Option bj)
 |aY (gs:List eK) (f:FuncId) (args:List bj)
 |mM (gs:List eK) (f:FuncId) (args:List bj)
 |n6 (kp:List Nat) (f:FuncId) (args:List bj)
def wb(op:BinOp)(k:IntKind)(a b:Int):Option Value:=
 match op with
 | .add=>some (.int k (k.wrap (a+b)))
 | .sub=>some (.int k (k.wrap (a- b)))
 | .mul=>some (.int k (k.wrap (a*b)))
 | .quo=>if b≠0 then some (.int k (k.wrap (a.tdiv b)))else none
 | .rem=>if b≠0 then some (.int k (a.tmod b))else none
 | .and=>some (.int k (k.wrap (BitVec.ofInt k.bits a&&&BitVec.ofInt k.bits b).toNat))
 | .or=>some (.int k (k.wrap (BitVec.ofInt k.bits a|||BitVec.ofInt k.bits b).toNat))
 | .xor=>some (.int k (k.wrap (BitVec.ofInt k.bits a^^^BitVec.ofInt k.bits b).toNat))
 | .eql=>some (.bool (a==b))
 | .neq=>some (.bool (a !=b))
 | .lss=>some (.bool (a<b))
 | .leq=>some (.bool (a<=b))
 | .gtr=>some (.bool (a>b))
 | .geq=>some (.bool (a≥b))
 |_=>none
def arT(op:BinOp)(k:IntKind)(a b:Int):Option Value:=
 match op with
 | .shl=>if 0<=b then some (.int k (k.wrap (a*2^(min b.toNat k.bits))))else none
 | .shr=>if 0<=b then some (.int k (a.fdiv (2^(min b.toNat k.bits))))else none
 |_=>none
def ait(op:BinOp)(a b:ByteArray):Option Value:=
 match op with
 | .add=>if((a.size+b.size:Nat):Int)<=IntKind.i64.max then some (.string (a++b))else none
 | .eql=>some (.bool (a.toList==b.toList))
 | .neq=>some (.bool !(a.toList==b.toList))
 | .lss=>some (.bool (Op.bytesLess a.toList b.toList))
 | .leq=>some (.bool (Op.bytesLess a.toList b.toList||a.toList==b.toList))
 | .gtr=>some (.bool !(Op.bytesLess a.toList b.toList||a.toList==b.toList))
 | .geq=>some (.bool !(Op.bytesLess a.toList b.toList))
 |_=>none
def BinOp.gd:BinOp->Bool
 | .shl| .shr=>true
 |_=>false
def oj(op:BinOp)(x y:Value):Option Value:=
 match x,y with
 | .int k a,.int k' b=>if BinOp.gd op=true then arT op k a b else if k=k' then wb op k a b else none
 | .string a,.string b=>ait op a b
 |_,_=>none
def sun(op:UnOp)(x:Value):Option Value:=
 match op,x with
 | .neg,.int k n=>some (.int k (k.wrap (0- n)))
 | .not,.bool b=>some (.bool !b)
 |_,_=>none
def lW(e:Env)(z:List AV):List (Nat×Nat×bj)->(AV->Prop)->Prop
 | [],K=>K (.agg z)
 |(off,size,x)::r,K=>(x.ev e).cells.length=size/\((x.ev e).cB||(x.ev e).isAgg)=true/\off+size<=z.length/\
  lW e (z.take off++(x.ev e).cells++z.drop (off+size)) r K
def uO(e:Env)(s:Nat)(xs:List AV):List (Nat×bj)->(List AV->Prop)->Prop
 | [],K=>K xs
 |(i,x)::r,K=>(x.ev e).cells.length=s/\(x.ev e).storable=true/\i<xs.length/\uO e s (xs.set i (x.ev e)) r K
def iw(d:Int)(e:Env):Option bj->(Int->Prop)->Prop
 |none,K=>K d
 |some x,K=>match x.ev e with| .v (.int _ i)=>K i|_=>False
def xg(O:List aj)(y:AV)(K:List AV->Prop):Prop:=
 match y with
 | .an=>K []
 | .sl ys=>K ys
 | .row n len=>match O[n]? with
   |some (.live _ _ xs)=>xs.length=len/\K xs
   |some (.nil _ _)=>len=0/\K []
   |_=>False
 |_=>False
mutual
def AV.ag:AV->Bool
 | .top| .v _| .an| .xK=>true
 | .sl xs=>AV.ae xs
 | .bW x _=>x.ag
 | .row _ _| .ptr _ _ _ _=>false
 | .fn _ cs=>AV.ae cs
 | .agg cs=>AV.ae cs
 | .aZ vs=>AV.ae vs
 | .own _=>false
def AV.ae:List AV->Bool
 | []=>true
 |x::xs=>x.ag&&AV.ae xs
end
def lh(O:List aj)(a:AV):AV:=
 match a with
 | .row n len=>match O[n]? with
   |some (.live _ _ xs)=>if xs.length=len then .sl xs else a
   |some (.nil _ _)=>if len=0 then .sl []else a
   |_=>a
 | .own n=>match O[n]? with
   |some (.own b)=>b
   |_=>a
 |a=>a
def AV.flat:AV->Bool
 | .v _=>true
 | .aZ vs=>vs.all λ x=>match x with| .v _=>true|_=>false
 |_=>false
def fZ(O:List aj)(a:AV):List aj:=
 match a with
 | .row n _=>O.set n .dead
 | .own n=>O.set n .dead
 |_=>O
def aft(O:List aj)(args:List AV)(res:AV):List aj:=if res.flat=true then O else args.foldl fZ O
def qC(O:List aj)(x:AV)(t s bytes:Nat)(ys:List AV)(K:AV->List aj->Prop):Prop:=
 match x with
 | .an=>ys.length*bytes<=140737488355328/\ys.length<=maxLen/\(ys= []->K .an O)/\(ys≠[]->K (.row O.length ys.length) (O++ [.live t s ys]))
 | .row n len=>match O[n]? with
   |some (.live t' s' xs)=>t'=t/\s'=s/\xs.length=len/\(len+ys.length)*bytes<=140737488355328/\len+ys.length<=maxLen/\
    K (.row n (len+ys.length)) (O.set n (.live t s (xs++ys)))
   |some (.nil t' s')=>t'=t/\s'=s/\len=0/\ys.length*bytes<=140737488355328/\ys.length<=maxLen/\
    (ys= []->K (.row n 0) O)/\(ys≠[]->K (.row n ys.length) (O.set n (.live t s ys)))
   |_=>False
 |_=>False
def bj.okc:bj->Bool
 | .t _=>true
 | .c a=>a.ag
def refs:AV->List Nat
 | .row n _=>[n]
 | .ptr n _ _ _=>[n]
 | .own n=>[n]
 |_=>[]
def AV.one:AV->Bool
 | .row n _=>n==0
 | .ptr n _ _ _=>n==0
 | .own n=>n==0
 |x=>x.ag
def aj.ae:aj->Bool
 | .live _ _ xs=>AV.ae xs
 | .jq (.mp es)=>es.all λ p=>p.1.ag&&p.2.ag
 |_=>true
def wpOp(P:Program)(o:gj)(e:Env)(O:List aj)(K:AV->List aj->Prop):Prop:=
 match o with
 | .stuck=>False
 | .ep _ s len z parts=>uO e s (List.replicate len z) parts λ xs=>AV.ae xs=true/\K (.sl xs) O
 | .pu o args=>AV.ae (args.map λ x=>lh O (x.ev e))=true/\puK o (args.map λ x=>lh O (x.ev e)) λ v=>K v O
 | .bD x=>K (x.ev e) O
 | .pick c a b=>match c.ev e with
   | .v (.bool t)=>K (if t then a.ev e else b.ev e) O
   |_=>False
 | .alloc t s z=>K (.ptr O.length 1 0 0) (O++ [.live t s [z]])
 | .box t s x=>(x.ev e).cells.length=s/\(x.ev e).storable=true/\K (.ptr O.length 1 0 0) (O++ [.live t s [x.ev e]])
 | .build z parts=>lW e z parts λ a=>K a O
 | .buildSlice t s len z parts=>uO e s (List.replicate len z) parts λ xs=>K (.row O.length len) (O++ [.live t s xs])
 | .load n x=>match x.ev e with
   | .bW y f=>f+n.getD 1<=y.cells.length/\K (cA n y f) O
   | .ptr k len i f=>match O[k]? with
     |some (.live _ _ xs)=>xs.length=len/\i<len/\f+n.getD 1<=(xs.getD i .top).cells.length/\K (cA n (xs.getD i .top) f) O
     |_=>False
   |_=>False
 | .store m x y=>match x.ev e with
   | .ptr k len i f=>match O[k]? with
     |some (.live t s xs)=>xs.length=len/\i<len/\(y.ev e).cells.length=m/\(y.ev e).storable=true/\f+m<=(xs.getD i .top).cells.length/\
      K .top (O.set k (.live t s (xs.set i (ua (xs.getD i .top) f (y.ev e)))))
     |_=>False
   |_=>False
 | .bin op x y=>match x.ev e,y.ev e with
   | .v a,.v b=>match oj op a b with
     |some z=>K (.v z) O
     |none=>False
   |_,_=>False
 | .beq neg x y=>match x.ev e,y.ev e with
   | .v (.bool a),.v (.bool b)=>K (.v (.bool (neg !=(a==b)))) O
   |_,_=>False
 | .un op x=>match x.ev e with
   | .v a=>match sun op a with
     |some z=>K (.v z) O
     |none=>False
   |_=>False
 | .mS k x=>match x.ev e with
   | .v (.int _ n)=>K (.v (.int k (k.wrap n))) O
   |_=>False
 | .bX off x=>match x.ev e with
   | .bW y f=>K (.bW y (f+off)) O
   | .ptr n len i f=>match O[n]? with
     |some (.live _ _ xs)=>xs.length=len/\K (.ptr n len i (f+off)) O
     |_=>False
   |_=>False
 | .zq off n x=>(x.ev e).isAgg=true/\off+n.getD 1<=(x.ev e).cells.length/\K (cA n (x.ev e) off) O
 | .dO s x i=>match x.ev e,i.ev e with
   | .sl xs,.v (.int _ i)=>0<=i/\i<xs.length/\(xs.getD i.toNat .top).cells.length=s/\K (.bW (xs.getD i.toNat .top) 0) O
   | .row n len,.v (.int _ i)=>match O[n]? with
     |some (.live _ s' xs)=>s'=s/\xs.length=len/\0<=i/\i<len/\K (.ptr n len i.toNat 0) O
     |_=>False
   |_,_=>False
 | .lU x i=>match x.ev e,i.ev e with
   | .v (.string s),.v (.int _ i)=>0<=i/\i<s.size/\K (.v (.int .u8 (s.data.toList.getD i.toNat 0).toNat)) O
   |_,_=>False
 | .fX x lo hi=>match x.ev e with
   | .v (.string s)=>iw 0 e lo λ l=>iw s.size e hi λ h=>0<=l/\l<=h/\h<=s.size/\K (.v (.string (s.extract l.toNat h.toNat))) O
   |_=>False
 | .acQ s x h m=>match x.ev e,h.ev e,m.ev e with
   | .sl xs,.v (.int _ i),.v (.int _ j)=>0<=i/\i<=j/\j<=xs.length/\(∀y∈xs,y.cells.length=s)/\K (.sl (xs.take i.toNat)) O
   |_,_,_=>False
 | .cj s x lo hi=>match x.ev e with
   | .sl xs=>iw 0 e lo λ l=>iw xs.length e hi λ h=>0<=l/\l<=h/\h<=xs.length/\(∀y∈xs,y.cells.length=s)/\K (.sl ((xs.take h.toNat).drop l.toNat)) O
   |_=>False
 | .alh t s bytes z x n=>match x.ev e,n.ev e with
   | .an,.v (.int .i64 k)=>0<k/\bytes*k<=2^48/\k<=maxLen/\K (.row O.length k.toNat) (O++ [.live t s (List.replicate k.toNat z)])
   |_,_=>False
 | .jo k t s z=>z.ag=true/\O[k]? =some (.nil t s)/\K (.ptr k 1 0 0) (O.set k (.live t s [z]))
 | .cut s x lo hi=>match x.ev e with
   | .an=>iw 0 e lo λ l=>iw 0 e hi λ h=>l=0/\h=0/\K .an O
   | .row n len=>match O[n]? with
     |some (.live t s' xs)=>xs.length=len/\s'=s/\iw 0 e lo λ l=>iw len e hi λ h=>l=0/\h=0/\K (.row O.length 0) (O.set n .dead++ [.live t s []])
     |_=>False
   |_=>False
 | .oz x=>match x.ev e with
   | .v (.string s)=>K (.v (.int .i64 s.size)) O
   |_=>False
 | .ch x=>match x.ev e with
   | .an=>K (.v (.int .i64 0)) O
   | .sl xs=>K (.v (.int .i64 xs.length)) O
   | .row n len=>match O[n]? with
     |some (.live _ _ xs)=>xs.length=len/\K (.v (.int .i64 len)) O
     |some (.nil _ _)=>len=0/\K (.v (.int .i64 0)) O
     |_=>False
   |_=>False
 | .app t s bytes x y=>xg O (y.ev e) λ ys=>(∀y∈ys,y.cells.length=s)/\qC O (x.ev e) t s bytes ys K
 | .ext x i=>match x.ev e with
   | .aZ vs=>i<vs.length/\K (vs.getD i .top) O
   |_=>False
 | .acu x=>match x.ev e with
   | .bW y f=>K (.bW y f) O
   | .fn f bl=>K (.fn f bl) O
   | .ptr n len i f=>match O[n]? with
     |some (.live _ _ xs)=>xs.length=len/\K (.ptr n len i f) O
     |_=>False
   |_=>False
 | .aau f bl=>K (.fn f (bl.map (bj.ev e))) O
 | .call f args=>∃res O',j7 P f (args.map (bj.ev e)) O res O'/\K res O'
 | .ib x args=>match x.ev e with
   | .fn f bl=>∃res O',j7 P f (args.map (bj.ev e)++bl) O res O'/\K res O'
   |_=>False
 | .qd f args=>∃res,AV.ae (args.map λ x=>lh O (x.ev e))=true/\aW P f (args.map λ x=>lh O (x.ev e)) res/\K res (aft O (args.map (bj.ev e)) res)
 | .mN x args=>match x.ev e with
   | .fn f bl=>∃res,AV.ae ((args.map λ x=>lh O (x.ev e))++bl)=true/\aW P f ((args.map λ x=>lh O (x.ev e))++bl) res/\K res (aft O (args.map (bj.ev e)) res)
   |_=>False
 | .fA f args=>∃res,AV.ae (args.map (bj.ev e))=true/\aW P f (args.map (bj.ev e)) res/\K res O
 | .p9 f args=>∃res,res.flat=true/\AV.ae (args.map λ x=>lh O (x.ev e))=true/\aW P f (args.map λ x=>lh O (x.ev e)) res/\K res O
 | .gq _ _ _ f args=>∃res ob,AV.ae (args.map (bj.ev e))=true/\j7 P f (args.map (bj.ev e)) [] res [ob]/\K (res.bL λ n=>O.length+n) (O++ [ob.bL λ n=>O.length+n])
 | .aY _ f args=>∃res O',j7 P f (args.map (bj.ev e)) O res O'/\K res O'
 | .mM _ f args=>∃n a0 ob res ob',args.map (bj.ev e)=a0.map (AV.bL λ _=>n)/\a0.all AV.one=true/\(args.flatMap λ x=>refs (x.ev e))= [n]/\O[n]? =some ob/\ob.ae=true/\res.ag=true/\ob'.ae=true/\j7 P f a0 [ob] res [ob']/\K res (O.set n ob')
 | .n6 kp f args=>∃res O',j7 P f (args.map (bj.ev e)) O res O'/\(∀n∈kp,O'[n]? =O[n]?)/\K res O'
def aDl:Value->Option AV
 | .bool b=>some (.v (.bool b))
 | .int k n=>some (.v (.int k n))
 | .string s=>some (.v (.string s))
 | .pointer none=>some (.v (.pointer none))
 | .map none=>some (.v (.map none))
 | .nilFunc=>some (.v .nilFunc)
 | .nilIface=>some (.v .nilIface)
 | .slice none 0 0=>some .an
 |_=>none
def auX:Value->Option AV
 | .agg cs=>(cs.toList.mapM aDl).map .agg
 | .func (.func f) first captured=>if first.size=0/\captured.size=0 then some (.fn f [])else none
 |x=>aDl x
def dQ:Operand->Option bj
 | .tmp t=>some (.t t)
 | .const v=>(auX v).map .c
 | .func f=>some (.c (.fn f []))
 | .global _=>none
def aAc(l:Array Operand):Option (List bj):=l.toList.mapM dQ
def zB(P:Program)(t:TypeId):Option (Nat×Nat×AV):=do
 let i ←P.info? t
 let z ←i.zero
 let a ←auX z
 if a.cells.length=i.size/\0<i.size/\z.cells.size=i.size/\a.storable=true then some (i.size,i.bytes,a)else none
def agd(d:TypeDesc):Bool:=
 match d with
 | .struct _| .array _ _=>true
 |_=>false
def aa4(P:Program)(t:TypeId):Option (Option Nat):=do
 let d ←P.underlying t
 let i ←P.info? t
 if agd d=true then(if 0<i.size then some (some i.size)else none)else some none
def xW(P:Program)(t:TypeId):Option TypeId:=
 match P.underlying t with
 |some (.slice e)=>some e
 |_=>none
def tO:BinOp->Bool
 | .neq=>true
 |_=>false
def ann(P:Program)(op:BinOp)(t:TypeId):Bool:=
 match op,P.underlying t with
 | .eql,some .bool=>true
 | .neq,some .bool=>true
 |_,_=>false
def uY(op:BinOp):Bool:=
 match op with
 | .eql| .neq=>true
 |_=>false
def aCc(P:Program)(t:TypeId):Bool:=
 match P.underlying t with
 |some (.slice _)=>true
 |_=>false
def ayE(P:Program)(t:TypeId):Bool:=
 match P.underlying t with
 |some (.pointer _)=>true
 |_=>false
def ayG(P:Program)(t:TypeId):Bool:=
 match P.underlying t with
 |some (.interface _)=>true
 |_=>false
def aG6(P:Program)(t:TypeId):Bool:=
 match P.underlying t with
 |some (.int .u8)=>true
 |_=>false
def isInt(P:Program)(t:TypeId):Bool:=
 match P.underlying t with
 |some (.int _)=>true
 |_=>false
def asI(P:Program)(t:TypeId)(x:Operand)(lo hi mx:Option Operand):Option gj:=
 match lo,hi,mx with
 |none,some h,some m=>match P.underlying t with
  |some (.slice e)=>match P.info? e,dQ x,dQ h,dQ m with
   |some inf,some ax,some ah,some am=>some (.acQ inf.size ax ah am)
   |_,_,_,_=>none
  |_=>none
 |_,_,_=>none
theorem nF{P:Program}{t:TypeId}{x:Operand}{lo hi mx:Option Operand}{ao:gj}(h:asI P t x lo hi mx=some ao):
  ∃oh om el inf ax ah am,lo=none/\hi=some oh/\mx=some om/\P.underlying t=some (.slice el)/\P.info? el=some inf/\dQ x=some ax/\dQ oh=some ah/\dQ om=some am/\ao= .acQ inf.size ax ah am:=by
 unfold asI at h
 split at h
 ·rename_i oh om
  split at h
  ·rename_i el ht
   split at h
   ·rename_i inf ax ah am h1 h2 h3 h4;injection h with h;exact⟨oh,om,el,inf,ax,ah,am,rfl,rfl,rfl,ht,h1,h2,h3,h4,h.symm⟩
   ·cases h
  ·cases h
 ·cases h
def eY(P:Program)(type:TypeId)(o:Op):Option gj:=
 match o with
 | .move x| .assign x=>do some (.bD (←dQ x))
 | .pick c a b=>do some (.pick (←dQ c) (←dQ a) (←dQ b))
 | .alloc t=>do let(s,_,z) ←zB P t;some (.alloc t s z)
 | .box t x=>do let i ←P.info? t;if 0<i.size then some (.box t i.size (←dQ x))else none
 | .build t parts=>
   match P.underlying t with
   |some (.struct fs)=>do
    let(_,_,z) ←zB P t
    let _ ←fs.toList.mapM (λ f=>(P.info? f.type).map λ i=>(f.offset,i.size))
    let ps ←parts.toList.mapM λ (i,x)=>do let f ←fs[i]?;let n ←P.info? f.type;some (f.offset,n.size,←dQ x)
    some (.build z.cells ps)
   |some (.array _ el)=>if parts.isEmpty then do
     let(_,_,z) ←zB P t
     let _ ←P.info? el
     some (.build z.cells [])
    else none
   |_=>none
 | .buildSlice t len parts=>do
   let e ←xW P t
   let(s,_,z) ←zB P e
   let ps ←parts.toList.mapM λ (i,x)=>do some (i,←dQ x)
   if len*s<=2^24 then some (.buildSlice e s len z ps)else none
 | .load t x=>do some (.load (←aa4 P t) (←dQ x))
 | .store t x y=>do some (.store (←P.info? t).size (←dQ x) (←dQ y))
 | .nilCheck x=>do some (.acu (←dQ x))
 | .binOp op t x y _=>if ann P op t=true then do some (.beq (tO op) (←dQ x) (←dQ y))else do some (.bin op (←dQ x) (←dQ y))
 | .unOp op _ x=>do some (.un op (←dQ x))
 | .convert src dst x=>match P.underlying src,P.underlying dst with
   |some (.int _),some (.int k)=>do some (.mS k (←dQ x))
   |_,_=>none
 | .fieldAddr t x f=>match P.underlying t with
   |some (.struct fs)=>do
    let g ←fs[f]?
    if 0<(←P.info? g.type).size then some (.bX g.offset (←dQ x))else none
   |_=>none
 | .field t x f=>match P.underlying t with
   |some (.struct fs)=>do
    let g ←fs[f]?
    some (.zq g.offset (←aa4 P g.type) (←dQ x))
   |_=>none
 | .indexAddr t x i=>do
   let e ←xW P t
   some (.dO (←P.info? e).size (←dQ x) (←dQ i))
 | .index t x i=>match P.underlying t with
   |some .string=>do some (.lU (←dQ x) (←dQ i))
   |_=>none
 | .slice t x lo hi mx=>
   if mx.isSome then asI P t x lo hi mx else
   match P.underlying t with
   |some .string=>do some (.fX (←dQ x) (←lo.mapM dQ) (←hi.mapM dQ))
   |some (.slice e)=>do some (.cj (←P.info? e).size (←dQ x) (←lo.mapM dQ) (←hi.mapM dQ))
   |_=>none
 | .extract x i=>do some (.ext (←dQ x) i)
 | .makeFunc (.func f) first bl=>if first.isEmpty then do some (.aau f (←aAc bl))else none
 |_=>none
def gj.afi:gj->Bool
 | .call _ _| .ib _ _| .qd _ _| .mN _ _| .fA _ _| .p9 _ _| .gq _ _ _ _ _| .aY _ _ _| .mM _ _ _| .n6 _ _ _=>true
 |_=>false
def ajp(P:Program)(c:Call):Option gj:=
 match c.callee with
 | .value f=>match dQ f,aAc c.args with
   |some (.c (.fn f [])),some args=>some (.call f args)
   |some x,some args=>some (.ib x args)
   |_,_=>none
 | .builtin .len=>match c.argTypes.toList,c.args.toList with
   | [t],[x]=>match P.underlying t with
     |some .string=>(dQ x).map .oz
     |some (.slice _)=>(dQ x).map .ch
     |_=>none
   |_,_=>none
 | .builtin .append=>match c.argTypes.toList,c.args.toList with
   | [t,u],[x,y]=>if t=u then do
       let e ←xW P t
       let(s,b,_) ←zB P e
       some (.app e s b (←dQ x) (←dQ y))else none
   |_,_=>none
 |_=>none
def an8(P:Program)(type:TypeId)(o:Op):Option gj:=
 match o with
 | .call c=>ajp P c
 |o=>(eY P type o).bind λ a=>if a.afi=true then none else some a
def isStr(P:Program)(t:TypeId):Bool:=
 match P.underlying t with
 |some .string=>true
 |_=>false
def aAd(P:Program)(o:Op):Option gj:=
 match o with
 | .binOp op t x (.const (.slice none 0 0)) _=>if uY op=true/\aCc P t=true then do some (.pu (.qk (tO op)) [←dQ x])else none
 | .binOp op t x (.const (.pointer none)) _=>if uY op=true/\ayE P t=true then do some (.pu (.aaC (tO op)) [←dQ x])else none
 | .binOp op t x (.const .nilIface) _=>if uY op=true/\ayG P t=true then do some (.pu (.aaD (tO op)) [←dQ x])else none
 | .convert s d x=>do
   let e ←xW P s
   if aG6 P e=true/\isStr P d=true then some (.pu .b2s [←dQ x])else none
 | .call c=>
   match c.callee,c.argTypes.toList,c.args.toList with
   | .builtin .append,[t,u],[x,y]=>if isInt P u=true then do
     let e ←xW P t
     let(s,b,z) ←zB P e
     some (.alh e s b z (←dQ x) (←dQ y))
     else none
   | .builtin .cap,[t],[x]=>if aCc P t=true then do some (.pu .az5 [←dQ x])else none
   | .builtin .min,[_,_],[x,y]=>do some (.pu .min [←dQ x,←dQ y])
   | .builtin .max,[_,_],[x,y]=>do some (.pu .max [←dQ x,←dQ y])
   |_,_,_=>none
 |_=>none
def aC5(P:Program)(type:TypeId)(o:Op):gj:=
 match aAd P o with
 |some a=>a
 |none=>(an8 P type o).getD .stuck
def cOp(P:Program)(type:TypeId)(o:Op):Option gj:=some (aC5 P type o)
theorem add_lit(b o j:Nat):(⟨b,o,none⟩:Addr).add j=⟨b,o+j,none⟩:=by
 unfold Addr.add;split<;>simp_all
section
variable {I:eW} {L:Nat->Loc} {O:List aj}
theorem agf{v:Value}{a:AV}(h:aDl v=some a):R I L O a v:=by
 unfold aDl at h
 split at h<;>cases h<;>first|exact .v _ rfl|exact .an
theorem mapM_some{α β:Type}{f:α->Option β}:∀{l:List α} {r:List β},l.mapM f=some r->r.length=l.length/\∀(i:Nat) (x:α) (y:β),l[i]? =some x->r[i]? =some y->f x=some y
 | [],r,h=>by simp at h;subst h;simp
 |a::l,r,h=>by
  simp only[mapM_cons,bind_eq_bind,bind_eq_some_iff,pure_def,Option.some.injEq]at h;obtain⟨b,hb,bs,hbs,rfl⟩:=h;obtain⟨h1,h2⟩:=mapM_some hbs;refine⟨by simp[h1],λ i x y hx hy=> ?_⟩;cases i with
  |zero=>simp at hx hy;subst hx;subst hy;exact hb
  |succ i=>simp at hx hy;exact h2 i x y hx hy
theorem lX{v:Value}{a:AV}(h:auX v=some a):R I L O a v:=by
 unfold auX at h
 split at h
 ·rename_i cs;simp only[map_eq_some_iff]at h;obtain⟨as,has,rfl⟩:=h;obtain⟨h1,h2⟩:=mapM_some has;refine .agg _ _ (by simpa using h1) λ i c x hc hx=>agf (h2 i x c (by simpa using hx) hc)
 ·rename_i f first captured
  split at h
  ·rename_i hh;cases h;obtain rfl:first= #[]:=Array.eq_empty_of_size_eq_zero hh.1
   exact .fn _ _ _ (by simp[hh.2]) (by simp)
  ·cases h
 ·exact agf h
theorem aO{x:Operand}{ax:bj}(h:dQ x=some ax){e:Env}{a:Act}(he:∀t,R I L O (e t) (a.tmps.getD t undef)):R I L O (ax.ev e) (a.eval x):=by
 unfold dQ at h
 split at h
 ·cases h;exact he _
 ·simp only[map_eq_some_iff]at h;obtain⟨c,hc,rfl⟩:=h;exact lX hc
 ·cases h;exact .fn _ _ _ rfl (by simp)
 ·cases h
theorem R.cB{a:AV}{x:Value}(h:R I L O a x)(hc:a.cB=true):x.oneCell'=true:=by
 cases h<;>first|rfl|(simp[AV.cB]at hc;done)|assumption|exact qE.val_one _ _
theorem Value.auJ{x:Value}(h:x.oneCell'=true):x.cells= #[x]:=by
 cases x<;>first|rfl|(simp[Value.oneCell']at h;done)
theorem AV.jn{a:AV}(h:a.cB=true):a.cells= [a]:=by
 cases a<;>first|rfl|(simp[AV.cB]at h;done)
theorem AV.vt{a:AV}(h:a.isAgg=true):a= .agg a.cells:=by
 cases a<;>first|rfl|(simp[AV.isAgg]at h;done)
theorem R.cells{a:AV}{x:Value}(h:R I L O a x)(hc:(a.cB||a.isAgg)=true):
  a.cells.length=x.cells.size/\∀(j:Nat) c,a.cells[j]? =some c->∃y,x.cells[j]? =some y/\R I L O c y:=by
 by_cases h1:a.cB=true
 ·have h2:=h.cB h1;rw[AV.jn h1,Value.auJ h2];refine⟨rfl,λ j c hj=> ?_⟩;cases j with
  |zero=>simp at hj;subst hj;exact⟨x,rfl,h⟩
  |succ j=>simp at hj
 ·have h3:a.isAgg=true:=by simpa [h1]using hc
  rw[AV.vt h3]at h;cases h with
  |agg _ vs hl hr=>
   refine⟨hl,λ j c hj=> ?_⟩;have aK:j<vs.size:=by rw[←hl];exact(List.getElem?_eq_some_iff.1 hj).1
   have hy:vs[j]? =some vs[j]:=by simp[aK]
   exact⟨vs[j],hy,hr j c _ hj hy⟩
theorem pV{a:AV}(h:a.storable=true):(a.cB||a.isAgg)=true:=by
 cases a<;>first|rfl|(simp[AV.storable,AV.cells,AV.cB]at h;done)
theorem R.vl{a:AV}{x:Value}(h:R I L O a x)(hc:a.storable=true):
  a.cells.length=x.cells.size/\∀(j:Nat) c,a.cells[j]? =some c->∃y,x.cells[j]? =some y/\y.oneCell'=true/\R I L O c y:=by
 obtain⟨h1,h2⟩:=h.cells (pV hc);refine⟨h1,λ j c hj=> ?_⟩;obtain⟨y,hy,hr⟩:=h2 j c hj;exact⟨y,hy,hr.cB (List.all_eq_true.1 hc c (mem_of_getElem? hj)),hr⟩
theorem R.aIm{a:AV}{x:Value}(h:R I L O a x)(hc:a.storable=true):∀v∈x.cells.toList,v.oneCell'=true:=by
 obtain⟨h1,h2⟩:=h.vl hc;intro v hv;obtain⟨j,hj⟩:=List.getElem?_of_mem hv;have hj':x.cells[j]? =some v:=by simpa using hj
 have aK:j<a.cells.length:=by rw[h1];exact(Array.getElem?_eq_some_iff.1 hj').1
 obtain⟨y,hy,ho,_⟩:=h2 j a.cells[j] (by simp[aK]);rw[hj']at hy;cases hy;exact ho
end
theorem R.iL{I:eW}{L:Nat->Loc}{O:List aj}{n len e s:Nat}{xs:List AV}{x:Value}(h:R I L O (.row n len) x)(hn:O[n]? =some (.live e s xs))(hl:xs.length=len):
  x= .slice (some ⟨(L n).bO,0,none⟩) len (L n).cap:=by
 cases h with
 |dX=>rfl
 |im _ _ _ pH=>rw[hn]at pH;cases pH
 |fk _ _ _ _ _ hd=>have:=hd _ _ _ hn;omega
theorem R.qO{I:eW}{L:Nat->Loc}{O:List aj}{n len e s:Nat}{x:Value}(h:R I L O (.row n len) x)(hn:O[n]? =some (.nil e s)):x= .slice none 0 0/\len=0:=by
 cases h with
 |dX _ _ _ _ _ pH=>rw[hn]at pH;cases pH
 |im=>exact⟨rfl,rfl⟩
 |fk _ _ _ _ hd=>exact(hd _ _ hn).elim
theorem R.qc{I:eW}{L:Nat->Loc}{O:List aj}{n len i f e s:Nat}{xs:List AV}{x:Value}(h:R I L O (.ptr n len i f) x)(hn:O[n]? =some (.live e s xs))(hl:xs.length=len):
  x= .pointer (some ⟨(L n).bO,i*s+f,none⟩):=by
 cases h with
 |fB _ _ _ _ _ _ _ pH=>rw[hn]at pH;cases pH;rfl
 |gW _ _ _ _ _ _ _ hd=>have:=hd _ _ _ hn;omega
theorem vD{P:Program}{t:TypeId}{d:TypeDesc}(hd:P.underlying t=some d)(w:World):
  (isAgg t).run P w= .ok (agd d) w:=by
 cases d<;>simp[isAgg,run_underlying hd,agd]
def yO(n:Option Nat)(cg:Nat->Value):Value:=
 match n with
 |none=>cg 0
 |some m=> .agg ((List.range m).map cg).toArray
theorem xp{P:Program}{t:TypeId}{n:Option Nat}(hn:aa4 P t=some n)(b o:Nat)(cg:Nat->Value)(w:World)
  (hc:∀j,j<n.getD 1->w.cell? ⟨b,o+j,none⟩=some (cg j)):
  (Instr.loadAt t (.pointer (some ⟨b,o,none⟩))).run P w= .ok (yO n cg) w:=by
 unfold aa4 at hn;simp only[bind_eq_bind,bind_eq_some_iff]at hn;obtain⟨d,hd,i,hi,hn⟩:=hn;cases n with
 |none=>
  have hf:agd d=false:=by
   by_cases h:agd d=true
   ·rw[if_pos h]at hn;split at hn<;>simp at hn
   ·simpa using h
  have h0:=hc 0 (by simp);simp only[add_zero]at h0;simp[Instr.loadAt,Instr.sureAddr,loadVar,vD hd,hf,run_load,h0,yO]
 |some m=>
  have hf:agd d=true/\i.size=m:=by
   by_cases h:agd d=true
   ·rw[if_pos h]at hn;split at hn<;>simp at hn;exact⟨h,hn⟩
   ·rw[if_neg h]at hn;simp at hn
  have hl:=run_loadCells (P:=P) w ⟨b,o,none⟩ m cg (λ j hj=>by rw[add_lit];exact hc j (by simpa using hj));simp[Instr.loadAt,Instr.sureAddr,loadVar,vD hd,hf.1,sizeOf,typeInfo,hi,hf.2,hl,yO]
theorem qU{I:eW}{L:Nat->Loc}{O:List aj}{x:AV}{n:Option Nat}{f:Nat}{cg:Nat->Value}(hf:f+n.getD 1<=x.cells.length)
  (hr:∀(j:Nat) c,x.cells[f+j]? =some c->j<n.getD 1->R I L O c (cg j)):
  R I L O (cA n x f) (yO n cg):=by
 cases n with
 |none=>
  simp only[Option.getD_none]at hf;have h1:x.cells[f]? =some x.cells[f]:=by simp[show f<x.cells.length by omega]
  have:=hr 0 _ (by rw[add_zero];exact h1) (by simp);simpa [cA,List.getD,h1,yO]using this
 |some m=>
  simp only[Option.getD_some]at hf hr;simp only[cA,yO]
  split
  ·rename_i hh;obtain⟨rfl,ha,hl⟩:=hh;rw[AV.vt ha];refine .agg _ _ (by simp[hl]) λ i c v hc hv=> ?_
   have aK:i<m:=by rw[←hl];exact(List.getElem?_eq_some_iff.1 hc).1
   simp[aK]at hv;subst hv;exact hr i c (by simpa using hc) aK
  ·refine .agg _ _ (by simp;omega) λ i c v hc hv=> ?_
   have aK:i<m:=by
    have:=(List.getElem?_eq_some_iff.1 hc).1;simp at this;omega
   simp[aK]at hv;subst hv;rw[getElem?_take,if_pos aK,getElem?_drop]at hc;exact hr i c hc aK
theorem gD{w:World}{b o:Nat}{c:Array Value}{e:TypeId}{f:Nat×Nat}(h:w.heap[b]? =some (.cells c e f)):w.cell? ⟨b,o,none⟩=c[o]? :=by
 simp[World.cell?,h]
theorem tX.congr{I I':eW}{L L':Nat->Loc}{O O':List aj}{w w':World}{l:Loc}{e s:Nat}{xs:List AV}(h:tX I L O w l e s xs)
  (hb:w'.heap[l.bO]? =w.heap[l.bO]?) (hr:∀a x,R I L O a x->R I' L' O' a x):tX I' L' O' w' l e s xs:=by
 obtain⟨c,h1,h2,h3,h4,h5,h6⟩:=h;refine⟨c,by rw[hb];exact h1,h2,h3,h4,h5,λ i x hx=>⟨(h6 i x hx).1,λ j a ha=> ?_⟩⟩;obtain⟨y,hy,ho,lV⟩:=(h6 i x hx).2 j a ha;exact⟨y,hy,ho,hr _ _ lV⟩
theorem Good.refl{I:eW}{L:Nat->Loc}{O:List aj}{w:World}(h:Inv I L O w):Good I L O w I L O w:=
 ⟨h,.refl _ _ _,.refl _ _,λ _ h=> .inl h,λ _ _ _ h=> .inl h⟩
theorem Good.trans{I I' I'':eW}{L L' L'':Nat->Loc}{O O' zK:List aj}{w w' w'':World}(h:Good I L O w I' L' O' w')(k:Good I' L' O' w' I'' L'' zK w''):Good I L O w I'' L'' zK w'':=
 ⟨k.inv,h.ext.trans k.ext,h.tV.trans k.tV h.lb,λ b hb=>by
   rcases k.lb b hb with h1|h1
   ·exact h.lb b h1
   ·exact .inr (le_trans h.tV.size h1),λ b o x hx=>by
   rcases k.nE b o x hx with h1|h1|h1
   ·exact h.nE b o x h1
   ·exact .inr (h.lb b h1)
   ·exact .inr (.inr (le_trans h.tV.size h1))⟩
theorem Good.drawn{I:eW}{L:Nat->Loc}{O:List aj}{w:World}(h:Inv I L O w)(k:Nat):Good I L O w I L O {w with drawn:=k}:=
 ⟨⟨h.ni,h.obj,h.sep,h.gf,h.fix,h.bO,h.ow.keep λ _ _ _=>rfl,h.gh.step (λ _ _ h=>⟨h,rfl⟩) (λ _ _ h=>h) λ _ _=>rfl⟩,.refl _ _ _,⟨rfl,rfl,rfl,le_refl _,λ _ _ _=>rfl⟩,λ _ h=> .inl h,λ _ _ _ h=> .inl h⟩
theorem Inv.put{I:eW}{L:Nat->Loc}{O O':List aj}{w w':World}{n:Nat}{l:Loc}{e s:Nat}{xs:List AV}(h:Inv I L O w)
  (hO:∀k:Nat,O'[k]? =if k=n then some (.live e s xs)else O[k]?) (hlen:O.length<=O'.length)
  (hw:∀b,b<w.heap.size->b≠l.bO->w'.heap[b]? =w.heap[b]?)
  (hos:w'.os=w.os) (aMZ:w'.tape=w.tape) (aQv:w'.output=w.output) (aM3:w.heap.size<=w'.heap.size)
  (hl:w.heap.size<=l.bO∨∃e s xs,O[n]? =some (.live e s xs)/\(L n).bO=l.bO)
  (vM:tX I L O w' l e s xs)
  (hold:n<O.length->(∃ys,O[n]? =some (.live e s ys)/\ys.length<=xs.length/\(ys.length=xs.length->l=L n))∨(O[n]? =some (.nil e s)/\xs≠[])):
  Good I L O w I (λ k=>if k=n then l else L k) O' w':=by
 have iu:Ext I L O I (λ k=>if k=n then l else L k) O':=by
  refine⟨λ _ _ _ h=>h,hlen,λ k hk e' s' mW hx=> ?_,λ k hk e' s' hx=> ?_,λ k hk a hx=> ?_,λ k hk a hx=> ?_⟩;rotate_left 2
  ·rw[hO]at hx;by_cases mA:k=n
   ·rw[if_pos mA]at hx;cases hx
   ·rw[if_neg mA]at hx;exact⟨⟨a,hx⟩,by simp only[if_neg mA]⟩
  ·rw[hO]at hx;by_cases mA:k=n
   ·rw[if_pos mA]at hx;cases hx
   ·rw[if_neg mA]at hx;exact⟨⟨a,hx,rfl⟩,by simp only[if_neg mA]⟩
  ·rw[hO]at hx;by_cases mA:k=n
   ·subst mA;rw[if_pos rfl]at hx;cases hx;rcases hold hk with⟨ys,h1,h2,h3⟩|h1
    ·exact .inl ⟨ys,h1,h2,λ he=>by simp[h3 he]⟩
    ·exact .inr h1
   ·rw[if_neg mA]at hx;exact .inl ⟨mW,hx,le_refl _,λ _=>by simp[mA]⟩
  ·rw[hO]at hx;by_cases mA:k=n
   ·rw[if_pos mA]at hx;cases hx
   ·rwa [if_neg mA]at hx
 have aK:∀{b o x},I b o=some x->b<w.heap.size/\b≠l.bO:=by
  intro b o x hx;have hb:=nG (h.ni b o x hx);refine⟨hb,λ he=> ?_⟩;rcases hl with h1|⟨e',s',mW,h1,h2⟩
  ·omega
  ·have:=h.gf n e' s' mW o h1;rw[h2,←he,hx]at this;cases this
 have oN:∀{k:Nat} {e' s' mW},O[k]? =some (.live e' s' mW)->(L k).bO<w.heap.size:=by
  intro k e' s' mW hk;obtain⟨c,⟨qi,hc,gg⟩,_⟩:=h.obj k e' s' mW hk;exact(Array.getElem?_eq_some_iff.1 hc).1
 have ej:∀{k:Nat} {e' s' mW},O[k]? =some (.live e' s' mW)->k≠n->(L k).bO≠l.bO:=by
  intro k e' s' mW hk mA he;rcases hl with h1|⟨e'',s'',aLz,h1,h2⟩
  ·have:=oN hk;omega
  ·exact mA (h.sep k n _ _ _ _ _ _ hk h1 (he.trans h2.symm))
 have hbk:∀b,b<w.heap.size->¬LB L O b->w'.heap[b]? =w.heap[b]? :=λ b hb hn=>by
  refine hw b hb λ he=> ?_
  rcases hl with h1|⟨e',s',mW,h1,h2⟩
  ·omega
  ·exact hn (.inl ⟨n,e',s',mW,h1,h2.trans he.symm⟩)
 have how:Own I (λ k=>if k=n then l else L k) O' w':=by
  refine h.ow.step (λ k a hk=> ?_) (λ b o v hv=> .inl ⟨o,v,hv⟩) (λ k e' s' mW hk=> ?_) λ b hb hn=> ?_
  ·rw[hO]at hk;by_cases mA:k=n
   ·rw[if_pos mA]at hk;cases hk
   ·rw[if_neg mA]at hk;exact⟨hk,if_neg mA⟩
  ·by_cases mA:k=n
   ·subst mA;simp only[if_true];rcases hl with h1|⟨e',s',mW,h1,h2⟩
    ·exact .inr h1
    ·exact .inl ⟨k,e',s',mW,h1,h2⟩
   ·rw[hO,if_neg mA]at hk;simp only[if_neg mA];exact .inl ⟨k,e',s',mW,hk,rfl⟩
  ·refine hw b hb λ he=> ?_
   rcases hl with h1|⟨e',s',mW,h1,h2⟩
   ·omega
   ·exact hn ⟨n,e',s',mW,h1,h2.trans he.symm⟩
 have hgh:Gh I (λ k=>if k=n then l else L k) O' w':=by
  refine h.gh.step (λ k g hk=> ?_) (λ a x hr=>hr.mono iu) λ b hb=> ?_
  ·rw[hO]at hk;by_cases mA:k=n
   ·rw[if_pos mA]at hk;cases hk
   ·rw[if_neg mA]at hk;exact⟨hk,by simp only[if_neg mA]⟩
  ·refine hw b hb.1 λ he=> ?_
   rcases hl with h1|⟨e',s',mW,h1,h2⟩
   ·have:=hb.1;omega
   ·obtain⟨c,⟨qi,hc,gg⟩,_⟩:=h.obj n e' s' mW h1;rw[h2,←he]at hc;exact hb.2 _ _ _ hc
 refine⟨⟨?_,?_,?_,?_,h.fix,h.zF hbk (λ _ _ _ h=>h),how,hgh⟩,iu,⟨hos,aMZ,aQv,aM3,?_⟩,?_,λ _ _ _ h=> .inl h⟩
 ·intro b o x hx;obtain⟨h1,h2⟩:=aK hx;rw[←h.ni b o x hx];exact World.cell?_of_block (a:=⟨b,o,none⟩) (hw b h1 h2)
 ·intro k e' s' mW hk;rw[hO]at hk;by_cases mA:k=n
  ·subst mA;rw[if_pos rfl]at hk;cases hk;simp only[if_true];exact vM.congr rfl λ a x=>R.mono iu
  ·rw[if_neg mA]at hk;simp only[if_neg mA];exact(h.obj k e' s' mW hk).congr (hw _ (oN hk) (ej hk mA)) λ a x=>R.mono iu
 ·intro k m e1 s1 xs1 e2 s2 xs2 hk hm hb;rw[hO]at hk hm;by_cases mA:k=n<;>by_cases tQ:m=n
  ·omega
  ·subst mA;simp only[if_true,if_neg tQ]at hb hm;exact(ej hm tQ hb.symm).elim
  ·subst tQ;simp only[if_true,if_neg mA]at hb hk;exact(ej hk mA hb).elim
  ·simp only[if_neg mA,if_neg tQ]at hb hk hm;exact h.sep k m _ _ _ _ _ _ hk hm hb
 ·intro k e1 s1 xs1 o hk;rw[hO]at hk;by_cases mA:k=n
  ·subst mA;simp only[if_true];cases hx:I l.bO o with
   |none=>rfl
   |some x=>exact((aK hx).2 rfl).elim
  ·simp only[if_neg mA]at hk⊢;exact h.gf k _ _ _ o hk
 ·intro b hb hn;refine hw b hb λ he=> ?_
  rcases hl with h1|⟨e',s',mW,h1,h2⟩
  ·omega
  ·exact hn (.inl ⟨n,e',s',mW,h1,h2.trans he.symm⟩)
 ·rintro b (⟨k,e',s',mW,hk,hb⟩|⟨k,a,o,v,hk,hb⟩|⟨k,g,hk,hb⟩)
  rotate_right
  ·rw[hO]at hk;by_cases mA:k=n
   ·rw[if_pos mA]at hk;cases hk
   ·rw[if_neg mA]at hk;simp only[if_neg mA]at hb;exact .inl (.inr (.inr ⟨k,g,hk,hb⟩))
  rotate_left
  ·rw[hO]at hk;by_cases mA:k=n
   ·rw[if_pos mA]at hk;cases hk
   ·rw[if_neg mA]at hk;simp only[if_neg mA]at hb;exact .inl (.inr (.inl ⟨k,a,o,v,hk,hb⟩))
  rw[hO]at hk;by_cases mA:k=n
  ·subst mA;simp only[if_true]at hb;subst hb;rcases hl with h1|⟨e',s',mW,h1,h2⟩
   ·exact .inr h1
   ·exact .inl (.inl ⟨k,e',s',mW,h1,h2⟩)
  ·simp only[if_neg mA]at hk hb;exact .inl (.inl ⟨k,e',s',mW,hk,hb⟩)
theorem Inv.aPW{I:eW}{L:Nat->Loc}{O:List aj}{w:World}(h:Inv I L O w){e s:Nat}{xs:List AV}(c:Array Value)(cap:Nat){m:Nat×Nat}(hmk:Mk m c.size s)
  (hc:c.size=cap*s) (hx:xs.length<=cap) (hm:cap<=maxLen) (hs:0<s)
  (hr:∀(i:Nat) x,xs[i]? =some x->x.cells.length=s/\∀(j:Nat) a,x.cells[j]? =some a->∃y,c[i*s+j]? =some y/\y.oneCell'=true/\R I L O a y):
  Good I L O w I (λ k=>if k=O.length then Loc.at w.heap.size (cap)else L k) (O++ [.live e s xs]) (w.alloc (.cells c e m)):=by
 refine h.put (n:=O.length) (l:=Loc.at w.heap.size (cap)) (e:=e) (s:=s) (xs:=xs) (w':=w.alloc (.cells c e m)) ?_ (by simp) ?_ rfl rfl rfl (by simp) (.inl (le_refl _)) ?_ (by omega)
 ·intro k;by_cases hk:k=O.length
  ·subst hk;simp
  ·rw[if_neg hk,List.getElem?_append]
   split
   ·rfl
   ·rw[getElem?_eq_none (by simp;omega),getElem?_eq_none (by omega)]
 ·intro b hb _;exact heap_alloc_old w _ b hb
 ·exact⟨c,⟨_,heap_alloc_new w _,hmk⟩,hc,hx,hm,hs,hr⟩
theorem Inv.new{I:eW}{L:Nat->Loc}{O:List aj}{w:World}(h:Inv I L O w){e s:Nat}{xs:List AV}(c:Array Value)(cap:Nat)
 (hc:c.size=cap*s) (hx:xs.length<=cap) (hm:cap<=maxLen) (hs:0<s)
 (hr:∀(i:Nat) x,xs[i]? =some x->x.cells.length=s/\∀(j:Nat) a,x.cells[j]? =some a->∃y,c[i*s+j]? =some y/\y.oneCell'=true/\R I L O a y):
 Good I L O w I (λ k=>if k=O.length then Loc.at w.heap.size (cap)else L k) (O++ [.live e s xs]) (w.alloc (.cells c e)):=h.aPW c cap (.inl rfl) hc hx hm hs hr
def kC(P:Program)(I:eW)(L:Nat->Loc)(O:List aj)(w:World)(s:Sem Next)(K:AV->List aj->Prop):Prop:=
 ∃x O' y I' L' w',K x O'/\Good I L O w I' L' O' w'/\R I' L' O' x y/\(s.run P w= .ok (.value y) w'∨(s.run P w= .ok .skip w'/\y=undef))
section
variable {P:Program} {I:eW} {L:Nat->Loc} {O:List aj} {w:World} {K:AV->List aj->Prop}
theorem kC.same(h:Inv I L O w){s:Sem Next}{x:AV}{y:Value}(hk:K x O)(hr:R I L O x y)(hs:s.run P w= .ok (.value y) w):kC P I L O w s K:=
 ⟨x,O,y,I,L,w,hk,.refl h,hr,.inl hs⟩
theorem R.bool{x:Value}{b:Bool}(h:R I L O (.v (.bool b)) x):x= .bool b:=by cases h;rfl
theorem R.exact{x y:Value}(h:R I L O (.v y) x):x=y:=by cases h;rfl
theorem axm{op:BinOp}{x y z:Value}(h:oj op x y=some z)(t:TypeId)(a b:Operand)(w:World):
  (do eqGuard op t a b x y;binOp op t x y:Sem Value).run P w= .ok z w/\z.oneCell'=true:=by
 unfold oj at h
 split at h
 ·rename_i k a' k' b'
  split at h
  ·cases op<;>simp[BinOp.gd]at* <;>simp only[arT]at h<;>split at h<;>simp at h<;>rename_i hh<;>subst h<;>
    simp[eqGuard,binOp,Op.shift,Int.not_lt.2 hh,Value.oneCell']
  ·split at h
   ·rename_i hk;subst hk;cases op<;>simp[BinOp.gd]at* <;>simp only[wb]at h
    case quo=>split at h<;>simp at h;rename_i hh;subst h;simp[eqGuard,binOp,Op.intDiv,hh,Value.oneCell']
    case rem=>split at h<;>simp at h;rename_i hh;subst h;simp[eqGuard,binOp,Op.intDiv,hh,Value.oneCell']
    all_goals (simp at h)
    all_goals (subst h;simp[eqGuard,binOp,Op.intArith,Op.intBits,Op.intCmp,Value.oneCell'])
   ·cases h
 ·rename_i a' b';cases op<;>simp only[ait]at h
  case add=>
   split at h<;>simp at h
   rename_i hh;subst h;have h2:¬((a'.size:Int)+(b'.size:Int)>IntKind.i64.max):=by have:=hh;push_cast at this;omega
   simp[eqGuard,binOp,Op.stringOp,Value.oneCell'];have h3:IntKind.i64.max=9223372036854775807:=by decide
   omega
  all_goals first
   |(simp at h;done)
   |(simp only[Option.some.injEq]at h;subst h;simp[eqGuard,binOp,Op.stringOp,Value.oneCell'])
 ·cases h
theorem aA7{op:UnOp}{x z:Value}(h:sun op x=some z)(w:World):(Op.unary op x).run P w= .ok z w/\z.oneCell'=true:=by
 unfold sun at h
 split at h<;>cases h<;>simp[Op.unary,Op.intArith,Value.oneCell']
end
theorem afQ(vs:List (Value×Nat))(off:Nat)(cells:Array Value):
  (vs.foldl (λ cs (p:Value×Nat)=>cs.setIfInBounds (off+p.2) p.1) cells).size=cells.size:=by
 induction vs generalizing cells with
 |nil=>rfl
 |cons a l ih=>simp[ih]
theorem ahE(vs:List Value)(off:Nat):∀(k:Nat) (cells:Array Value),off+k+vs.length<=cells.size->∀j:Nat,
  ((vs.zipIdx k).foldl (λ cs (p:Value×Nat)=>cs.setIfInBounds (off+p.2) p.1) cells)[j]? =if off+k<=j/\j<off+k+vs.length then vs[j- (off+k)]? else cells[j]? :=by
 induction vs with
 |nil=>
  intro k cells h j;rw[if_neg (by simp only[List.length_nil];omega)];rfl
 |cons a l ih=>
  intro k cells h j;simp only[List.zipIdx_cons,List.foldl_cons,List.length_cons]at h⊢;rw[ih (k+1) _ (by simp;omega)];by_cases h1:off+(k+1)<=j/\j<off+(k+1)+l.length
  ·rw[if_pos h1,if_pos (by omega)];rw[show j- (off+k)=(j- (off+(k+1)))+1 by omega,List.getElem?_cons_succ]
  ·rw[if_neg h1,Array.getElem?_setIfInBounds];by_cases h2:off+k=j
   ·subst h2;rw[if_pos rfl,if_pos (by omega),if_pos (by omega)];simp
   ·rw[if_neg h2,if_neg (by omega)]
def lay(off:Nat)(vs:List Value)(cells:Array Value):Array Value:=(vs.zipIdx.foldl (λ cs (p:Value×Nat)=>cs.setIfInBounds (off+p.2) p.1) cells)
theorem lay_size(off:Nat)(vs:List Value)(cells:Array Value):(lay off vs cells).size=cells.size:=afQ _ _ _
theorem aks{off:Nat}{vs:List Value}{cells:Array Value}(h:off+vs.length<=cells.size)(j:Nat):
  (lay off vs cells)[j]? =if off<=j/\j<off+vs.length then vs[j- off]? else cells[j]? :=by
 have:=ahE vs off 0 cells (by omega) j;simpa [lay]using this
theorem aje{place:Nat->Option (Nat×Nat)}{cells:Array Value}{i off size:Nat}{v:Value}{rest:List (Nat×Value)}(hp:place i=some (off,size))(hs:v.cells.size=size)(hf:off+size<=cells.size):
  Instr.fill place cells ((i,v)::rest)=Instr.fill place (lay off v.cells.toList cells) rest:=by
 rw[Instr.fill,hp];simp only[hs,ne_eq,not_true_eq_false,decide_false,Bool.false_or,decide_eq_true_eq];rw[if_neg (by omega)];congr 1;rw[lay,←Array.foldl_toList,Array.toList_zipIdx]
section
variable {P:Program} {I:eW} {L:Nat->Loc} {O:List aj} {w:World}
def RCs(I:eW)(L:Nat->Loc)(O:List aj)(cs:List AV)(vs:Array Value):Prop:=
 cs.length=vs.size/\∀(j:Nat) c y,cs[j]? =some c->vs[j]? =some y->R I L O c y
theorem RCs.lay{cs:List AV}{vs:Array Value}(h:RCs I L O cs vs){x:AV}{y:Value}(hr:R I L O x y)(hx:(x.cB||x.isAgg)=true){off:Nat}(hf:off+x.cells.length<=cs.length):
  RCs I L O (cs.take off++x.cells++cs.drop (off+x.cells.length)) (lay off y.cells.toList vs)/\y.cells.size=x.cells.length:=by
 obtain⟨h1,h2⟩:=hr.cells hx;have hlen:y.cells.toList.length=x.cells.length:=by simp[h1]
 refine⟨⟨by rw[lay_size];simp[←h.1];omega,λ j c z hc hz=> ?_⟩,h1.symm⟩;rw[aks (by rw[hlen,←h.1];exact hf),hlen]at hz;by_cases hj:off<=j/\j<off+x.cells.length
 ·rw[if_pos hj]at hz
  have nS:x.cells[j- off]? =some c:=by
   rw[append_assoc,getElem?_append_right (by simp;omega),getElem?_append_left (by simp;omega)]at hc;rwa [length_take,Nat.min_eq_left (by omega)]at hc
  obtain⟨y',wS,lV⟩:=h2 _ c nS;rw[Array.getElem?_toList,wS]at hz;cases hz;exact lV
 ·rw[if_neg hj]at hz
  have nS:cs[j]? =some c:=by
   by_cases aK:j<off
   ·rwa [append_assoc,getElem?_append_left (by simp;omega),getElem?_take,if_pos aK]at hc
   ·rw[getElem?_append_right (by simp;omega),getElem?_drop]at hc;rw[←hc];congr 1;simp;omega
  exact h.2 j c z nS hz
end
section
variable {P:Program} {I:eW} {L:Nat->Loc} {O:List aj} {w:World} {K:AV->List aj->Prop} {e:Env} {a:Act}
theorem abX{xs:List Operand}{as:List bj}(h:xs.mapM dQ=some as)(he:∀t,R I L O (e t) (a.tmps.getD t undef)):
  RL I L O (as.map (bj.ev e)) (xs.map a.eval).toArray:=by
 obtain⟨h1,h2⟩:=mapM_some h;refine⟨by simp[h1],λ i c x hc hx=> ?_⟩;simp only[List.getElem?_map,map_eq_some_iff]at hc;obtain⟨o,ho,rfl⟩:=hc;simp only[getElem?_toArray,List.getElem?_map,map_eq_some_iff]at hx;obtain⟨q,hq,rfl⟩:=hx;exact aO (h2 i q o hq ho) he
theorem nI{t s b:Nat}{z:AV}(h:zB P t=some (s,b,z)):
  ∃i z0,P.info? t=some i/\i.zero=some z0/\auX z0=some z/\i.size=s/\i.bytes=b/\z.cells.length=s/\0<s/\z0.cells.size=s/\z.storable=true:=by
 unfold zB at h;simp only[bind_eq_bind,bind_eq_some_iff]at h;obtain⟨i,hi,z0,hz,a,ha,h⟩:=h
 split at h<;>simp at h
 rename_i hh;obtain⟨rfl,rfl,rfl⟩:=h;exact⟨i,z0,hi,hz,ha,rfl,rfl,hh.1,hh.2.1,hh.2.2.1,hh.2.2.2⟩
theorem Inv.box(hi:Inv I L O w){x:AV}{y:Value}(t:Nat){s:Nat}(hr:R I L O x y)(hs:x.storable=true)(hl:x.cells.length=s)(h0:0<s):
  Good I L O w I (λ k=>if k=O.length then Loc.at w.heap.size (1)else L k) (O++ [.live t s [x]]) (w.alloc (.cells y.cells t))/\
  R I (λ k=>if k=O.length then Loc.at w.heap.size (1)else L k) (O++ [.live t s [x]]) (.ptr O.length 1 0 0) (.pointer (some ⟨w.heap.size,0,none⟩)):=by
 obtain⟨h1,h2⟩:=hr.vl hs;refine⟨hi.new y.cells 1 (by omega) (by simp) (by simp[maxLen]) h0 λ i z hz=> ?_,?_⟩
 ·cases i with
  |zero=>
   simp at hz;subst hz;exact⟨hl,λ j c hj=>by simpa using h2 j c hj⟩
  |succ i=>simp at hz
 ·have:=R.fB (I:=I) (L:=λ k=>if k=O.length then Loc.at w.heap.size (1)else L k) (O:=O++ [.live t s [x]]) O.length 1 0 0 t s [x] (by simp) rfl;simpa using this
theorem zC{fs:Array Field}(he:∀t,R I L O (e t) (a.tmps.getD t undef)){M:AV->Prop}:
  ∀(parts:List (Nat×Operand)) (ps:List (Nat×Nat×bj)) (z:List AV) (vs:Array Value),RCs I L O z vs->
  (parts.mapM λ (p:Nat×Operand)=>do let f ←fs[p.1]?;let n ←P.info? f.type;some (f.offset,n.size,←dQ p.2))=some ps->
  lW e z ps M->∃zs rJ,M (.agg zs)/\RCs I L O zs rJ/\
   ∀pl:Nat->Option (Nat×Nat),(∀i f n,fs[i]? =some f->P.info? f.type=some n->pl i=some (f.offset,n.size))->
    Instr.fill pl vs (parts.map λ (p:Nat×Operand)=>(p.1,a.eval p.2))=some rJ
 | [],ps,z,vs,hz,hp,hk=>by
   simp at hp;subst hp;exact⟨z,vs,hk,hz,λ pl _=>rfl⟩
 |(i,x)::parts,ps,z,vs,hz,hp,hk=>by
  simp only[mapM_cons,bind_eq_bind,pure_def,bind_eq_some_iff,Option.some.injEq]at hp;obtain⟨q,⟨f,hf,n,hn,ax,hx,rfl⟩,qs,hqs,rfl⟩:=hp;obtain⟨h1,h2,h3,h4⟩:=hk;have hr:=aO hx he;obtain⟨hz',rI⟩:=hz.lay hr h2 (off:=f.offset) (by omega);rw[h1]at hz';obtain⟨zs,rJ,m1,m2,m3⟩:=zC he parts qs _ _ hz' hqs h4;refine⟨zs,rJ,m1,m2,λ pl hpl=> ?_⟩;rw[List.map_cons,aje (hpl i f n hf hn) (rI.trans h1) (by rw[←hz.1];omega)];exact m3 pl hpl
end
def lY(I:eW)(L:Nat->Loc)(O:List aj)(s:Nat)(xs:List AV)(c:Array Value):Prop:=
 ∀(i:Nat) x,xs[i]? =some x->x.cells.length=s/\∀(j:Nat) a,x.cells[j]? =some a->∃y,c[i*s+j]? =some y/\y.oneCell'=true/\R I L O a y
theorem akO{i j s n:Nat}(hi:i<n)(hj:j<s):i*s+j<n*s:=by
 calc i*s+j<i*s+s:=by omega
  _=(i+1)*s:=by rw[add_mul,Nat.one_mul]
  _<=n*s:=mul_le_mul_right s hi
theorem ayI{i i' j s:Nat}(hj:j<s)(h:i≠i'):¬(i'*s<=i*s+j/\i*s+j<i'*s+s):=by
 intro⟨h1,h2⟩;rcases Nat.lt_or_gt_of_ne h with h3|h3
 ·have:=mul_le_mul_right s (show i+1<=i' from h3);rw[add_mul]at this;omega
 ·have:=mul_le_mul_right s (show i'+1<=i from h3);rw[add_mul]at this;omega
section
variable {P:Program} {I:eW} {L:Nat->Loc} {O:List aj} {w:World} {K:AV->List aj->Prop} {e:Env} {a:Act}
theorem lY.made{z:AV}{z0:Value}{s n cap:Nat}(hz:R I L O z z0)(hs:z.storable=true)(hl:z.cells.length=s)(h0:0<s)(hn:n<=cap):
  lY I L O s (List.replicate n z) ((Array.range (cap*s)).map (z0.cells[·%z0.cells.size]!)):=by
 obtain⟨h1,h2⟩:=hz.vl hs;intro i x hx;rw[List.getElem?_replicate]at hx
 split at hx<;>simp at hx
 rename_i hi;subst hx;refine⟨hl,λ j c hj=> ?_⟩;obtain⟨y,hy,ho,hr⟩:=h2 j c hj;have hjs:j<s:=by rw[←hl];exact(List.getElem?_eq_some_iff.1 hj).1
 have aK:i*s+j<cap*s:=akO (by omega) hjs
 have aQF:(i*s+j)%z0.cells.size=j:=by
  rw[←h1,hl,Nat.add_comm,Nat.add_mul_mod_self_right,Nat.mod_eq_of_lt hjs]
 refine⟨y,?_,ho,hr⟩;rw[Array.getElem?_map,Array.getElem?_range];simp only[aK,if_true,Option.map_some,aQF];obtain⟨dm,he⟩:=Array.getElem?_eq_some_iff.1 hy;rw[←he,getElem!_pos z0.cells j dm]
theorem lY.lay{xs:List AV}{c:Array Value}{s:Nat}(h:lY I L O s xs c)(hc:xs.length*s<=c.size){x:AV}{y:Value}(hr:R I L O x y)(hs:x.storable=true)(hl:x.cells.length=s){i:Nat}(hi:i<xs.length):
  lY I L O s (xs.set i x) (lay (i*s) y.cells.toList c)/\y.cells.size=s:=by
 obtain⟨h1,h2⟩:=hr.vl hs;have hlen:y.cells.toList.length=s:=by simp;omega
 have cV:i*s+s<=c.size:=by
  have:=mul_le_mul_right s (show i+1<=xs.length from hi);rw[add_mul]at this;omega
 refine⟨λ k z hz=> ?_,by omega⟩;rw[List.getElem?_set]at hz;by_cases hk:i=k
 ·subst hk;rw[if_pos rfl,if_pos hi]at hz;cases hz;refine⟨hl,λ j d hj=> ?_⟩;obtain⟨v,hv,ho,hrv⟩:=h2 j d hj;have hjs:j<s:=by rw[←hl];exact(List.getElem?_eq_some_iff.1 hj).1
  refine⟨v,?_,ho,hrv⟩;rw[aks (by omega),if_pos (by omega)];simpa using hv
 ·rw[if_neg hk]at hz;obtain⟨h3,h4⟩:=h k z hz;refine⟨h3,λ j d hj=> ?_⟩;obtain⟨v,hv,ho,hrv⟩:=h4 j d hj;have hjs:j<s:=by rw[←h3];exact(List.getElem?_eq_some_iff.1 hj).1
  refine⟨v,?_,ho,hrv⟩;rw[aks (by omega),hlen,if_neg (ayI hjs (λ h=>hk h.symm))];exact hv
theorem xr(he:∀t,R I L O (e t) (a.tmps.getD t undef)){s:Nat}{M:List AV->Prop}:
  ∀(parts:List (Nat×Operand)) (ps:List (Nat×bj)) (xs:List AV) (c:Array Value),lY I L O s xs c->c.size=xs.length*s->
  (parts.mapM λ (p:Nat×Operand)=>do some (p.1,←dQ p.2))=some ps->
  uO e s xs ps M->∃mW c',M mW/\lY I L O s mW c'/\mW.length=xs.length/\c'.size=c.size/\
   Instr.fill (λ i=>some (i*s,s)) c (parts.map λ (p:Nat×Operand)=>(p.1,a.eval p.2))=some c'
 | [],ps,xs,c,hx,hc,hp,hk=>by
   simp at hp;subst hp;exact⟨xs,c,hk,hx,rfl,rfl,rfl⟩
 |(i,x)::parts,ps,xs,c,hx,hc,hp,hk=>by
  simp only[mapM_cons,bind_eq_bind,pure_def,bind_eq_some_iff,Option.some.injEq]at hp;obtain⟨q,⟨ax,hax,rfl⟩,qs,hqs,rfl⟩:=hp;obtain⟨h1,h2,h3,h4⟩:=hk;have hr:=aO hax he;obtain⟨hx',rI⟩:=hx.lay (by omega) hr h2 h1 h3
  have cV:i*s+s<=c.size:=by
   have:=mul_le_mul_right s (show i+1<=xs.length from h3);rw[add_mul]at this;omega
  obtain⟨mW,c',m1,m2,m3,m4,m5⟩:=xr he parts qs _ _ hx' (by rw[lay_size];simpa using hc) hqs h4;refine⟨mW,c',m1,m2,by simpa using m3,by rw[m4,lay_size],?_⟩;rw[List.map_cons,aje rfl rI cV];exact m5
end
section
variable {P:Program} {I:eW} {L:Nat->Loc} {O:List aj} {w:World} {K:AV->List aj->Prop} {e:Env} {a:Act}
theorem aA9{y:AV}{v:Value}(hi:Inv I L O w)(hr:R I L O y v){M:List AV->Prop}(h:xg O y M):
  ∃ys ya c,M ys/\v= .slice ya ys.length c/\∀s,(∀x∈ys,x.cells.length=s)->ys≠[]->∃b o,ya=some ⟨b,o,none⟩/\
   ∀(i:Nat) x,ys[i]? =some x->∀(j:Nat) d,x.cells[j]? =some d->∃u,w.cell? ⟨b,o+(i*s+j),none⟩=some u/\u.oneCell'=true/\R I L O d u:=by
 unfold xg at h
 split at h
 ·cases hr;exact⟨[],none,0,h,rfl,λ s _ h=>(h rfl).elim⟩
 ·rename_i ys;cases hr with
  |oX ya cap=>exact⟨[],ya,cap,h,rfl,λ s _ h=>(h rfl).elim⟩
  |sl _ bO off cap s cg h1 h2 h3 h4 h5=>
   refine⟨ys,_,cap,h,rfl,λ s' hs' ej=>⟨bO,off,rfl,λ i x hx j d hj=> ?_⟩⟩;have hss:s=s':=by rw[←h3 i x hx,hs' x (mem_of_getElem? hx)]
   subst hss;obtain⟨h6,h7⟩:=h4 i x j d hx hj;exact⟨cg i j,by rw[←add_assoc];exact hi.ni _ _ _ h6,h7,h5 i x j d hx hj⟩
 ·rename_i n len
  split at h
  ·rename_i t s0 xs hn;obtain⟨rfl,h⟩:=h;have hv:=hr.iL hn rfl;subst hv
   ·refine⟨xs,_,_,h,rfl,λ s hs ej=>⟨_,0,rfl,λ i x hx j d hj=> ?_⟩⟩;obtain⟨c,⟨qi,h1,gg⟩,h2,h3,h4,h5,h6⟩:=hi.obj n t s0 xs hn;obtain⟨h7,h8⟩:=h6 i x hx;have hss:s0=s:=by rw[←h7,hs x (mem_of_getElem? hx)]
    subst hss;obtain⟨u,hu,ho,hru⟩:=h8 j d hj;exact⟨u,by rw[Nat.zero_add,gD h1];exact hu,ho,hru⟩
  ·rename_i t s0 hn;obtain⟨rfl,h⟩:=h;obtain⟨rfl,_⟩:=hr.qO hn;exact⟨[],none,0,h,rfl,λ s _ h=>(h rfl).elim⟩
  ·exact h.elim
 ·exact h.elim
def fc(w:World)(b o n:Nat):List Value:=(List.range n).map λ k=>(w.cell? ⟨b,o+k,none⟩).getD undef
theorem as0{k n s:Nat}(h:k<n*s):k/s<n/\k%s<s/\k/s*s+k%s=k:=by
 have hs:0<s:=by rcases Nat.eq_zero_or_pos s with rfl|h0;simp at h;exact h0
 exact⟨(Nat.div_lt_iff_lt_mul hs).2 h,Nat.mod_lt _ hs,by rw[Nat.mul_comm];exact Nat.div_add_mod k s⟩
theorem qS{ys:List AV}{s b o:Nat}(hs:∀x∈ys,x.cells.length=s)
  (h:∀(i:Nat) x,ys[i]? =some x->∀(j:Nat) d,x.cells[j]? =some d->∃u,w.cell? ⟨b,o+(i*s+j),none⟩=some u/\u.oneCell'=true/\R I L O d u):
  (fc w b o (ys.length*s)).length=ys.length*s/\
  (∀(j:Nat) u,(fc w b o (ys.length*s))[j]? =some u->w.cell? ((⟨b,o,none⟩:Addr).add j)=some u)/\
  (∀u∈fc w b o (ys.length*s),u.oneCell'=true)/\
  lY I L O s ys (fc w b o (ys.length*s)).toArray:=by
 have eI:∀k,k<ys.length*s->∃u,w.cell? ⟨b,o+k,none⟩=some u/\u.oneCell'=true/\(fc w b o (ys.length*s))[k]? =some u:=by
  intro k hk;obtain⟨h1,h2,h3⟩:=as0 hk;have hx:ys[k/s]? =some ys[k/s]:=by simp[h1]
  have hl:=hs _ (mem_of_getElem? hx);obtain⟨u,hu,ho,_⟩:=h _ _ hx (k%s) (ys[k/s].cells[k%s]'(by omega)) (by simp[hl,h2]);rw[h3]at hu;refine⟨u,hu,ho,?_⟩;simp[fc,hk,hu]
 refine⟨by simp[fc],λ j u hu=> ?_,λ u hu=> ?_,λ i x hx=>⟨hs x (mem_of_getElem? hx),λ j d hj=> ?_⟩⟩
 ·have hj:j<ys.length*s:=by have:=(List.getElem?_eq_some_iff.1 hu).1;simpa [fc]using this
  obtain⟨u',h1,h2,h3⟩:=eI j hj;rw[h3]at hu;cases hu;rw[add_lit];exact h1
 ·obtain⟨j,hj⟩:=List.getElem?_of_mem hu;have hjl:j<ys.length*s:=by have:=(List.getElem?_eq_some_iff.1 hj).1;simpa [fc]using this
  obtain⟨u',h1,h2,h3⟩:=eI j hjl;rw[h3]at hj;cases hj;exact h2
 ·obtain⟨u,hu,ho,hr⟩:=h i x hx j d hj;have aK:i*s+j<ys.length*s:=akO (List.getElem?_eq_some_iff.1 hx).1 (by rw[←hs x (mem_of_getElem? hx)];exact(List.getElem?_eq_some_iff.1 hj).1);refine⟨u,?_,ho,hr⟩;simp[fc,aK,hu]
theorem lY.append{s:Nat}{xs ys:List AV}{c d:Array Value}(hx:lY I L O s xs c)(hy:lY I L O s ys d)(r:List Value)(aGO:List Value)
  (ho:aGO.length=xs.length*s) (hoc:∀(k:Nat),k<xs.length*s->aGO[k]? =c[k]?):
  lY I L O s (xs++ys) (aGO++d.toList++r).toArray:=by
 intro i x hi;by_cases h:i<xs.length
 ·rw[getElem?_append_left h]at hi;obtain⟨h1,h2⟩:=hx i x hi;refine⟨h1,λ j u hj=> ?_⟩;obtain⟨y,wS,ho',hr⟩:=h2 j u hj;have hjs:j<s:=by rw[←h1];exact(List.getElem?_eq_some_iff.1 hj).1
  have aK:i*s+j<xs.length*s:=akO h hjs;refine⟨y,?_,ho',hr⟩;simp only[getElem?_toArray];rw[append_assoc,getElem?_append_left (by omega),hoc _ aK,wS]
 ·rw[getElem?_append_right (by omega)]at hi;obtain⟨h1,h2⟩:=hy _ x hi;refine⟨h1,λ j u hj=> ?_⟩;obtain⟨y,wS,ho',hr⟩:=h2 j u hj
  have he:i*s+j=xs.length*s+((i- xs.length)*s+j):=by
   rw[←add_assoc,←add_mul];congr 2;omega
  have aK:(i- xs.length)*s+j<d.toList.length:=by
   have:=(Array.getElem?_eq_some_iff.1 wS).1;simpa using this
  refine⟨y,?_,ho',hr⟩;simp only[getElem?_toArray];rw[append_assoc,he,getElem?_append_right (by omega),ho,Nat.add_sub_cancel_left,getElem?_append_left aK,Array.getElem?_toList,wS]
end
section
variable {P:Program} {I:eW} {L:Nat->Loc} {O:List aj} {w:World} {K:AV->List aj->Prop} {e:Env} {a:Act}
theorem vq{t ty el:TypeId}{i:TypeInfo}(ht:P.underlying t=some (.slice el))(hi:P.info? el=some i)(b y:Option Addr)(n cap c:Nat)(hn:n<=cap)(w:World):
  (Builtin.append_ #[t,t] ty #[.slice b n cap,.slice y 0 c]).run P w= .ok (.slice b n cap) w:=by
 have hf:(Builtin.firstCells i.size 0 (.slice y 0 c)).run P w= .ok #[] w:=by
  cases y with
  |none=>simp[Builtin.firstCells]
  |some y=>have:=run_firstCells_some (P:=P) w i.size 0 y 0 c [] (by simp) (by simp);simpa using this
 cases b<;>simp[Builtin.append_,run_underlying ht,sizeOf,typeInfo,hi,Builtin.lenOf,hn,hf,storeCells]
theorem yA{n:Nat}(hn:n<O.length)(o:aj)(k:Nat):(O.set n o)[k]? =if k=n then some o else O[k]? :=by
 rw[List.getElem?_set];by_cases hk:n=k
 ·subst hk;simp[hn]
 ·rw[if_neg hk,if_neg (λ h=>hk h.symm)]
theorem lY.vH{s:Nat}{xs:List AV}{r:List Value}{d z:Array Value}(h:lY I L O s xs (r++d.toList++z.toList).toArray):lY I L O s xs (r.toArray++d++z):=by
 intro i x hx;obtain⟨q1,q2⟩:=h i x hx;refine⟨q1,λ j d' hj=> ?_⟩;obtain⟨u,hu,ho,hr⟩:=q2 j d' hj;exact⟨u,by rw[←hu];congr 1;apply Array.ext';simp,ho,hr⟩
theorem aDe{t ty el:Nat}{i:TypeInfo}{z0:Value}(ht:P.underlying t=some (.slice el))(hi:P.info? el=some i)(hz:i.zero=some z0)(h0:0<i.size)(hzs:z0.cells.size=i.size)
  (hinv:Inv I L O w) {ys:List AV} {b o c:Nat} (hs:∀x∈ys,x.cells.length=i.size) (ej:ys≠[])
  (hc:∀(k:Nat) x,ys[k]? =some x->∀(j:Nat) d,x.cells[j]? =some d->∃u,w.cell? ⟨b,o+(k*i.size+j),none⟩=some u/\u.oneCell'=true/\R I L O d u)
  (h48:ys.length*i.bytes<=140737488355328) (wc:ys.length<=maxLen):
  ∃y' I' L' w',Good I L O w I' L' (O++ [.live el i.size ys]) w'/\R I' L' (O++ [.live el i.size ys]) (.row O.length ys.length) y'/\
   (Builtin.append_ #[t,t] ty #[.slice none 0 0,.slice (some ⟨b,o,none⟩) ys.length c]).run P w= .ok y' w':=by
 obtain⟨h1,h2,h3,h4⟩:=qS hs hc;have ahx:0<ys.length:=List.length_pos_iff.2 ej;have hm:ys.length<=9223372036854775807:=by simpa [maxLen]using wc
 have gC:=run_append_nil (P:=P) w t ty el i z0 ht hi hz ⟨b,o,none⟩ ys.length c (fc w b o (ys.length*i.size)) h1 h2 ahx (by omega) (by omega);have hge:=grownCap_ge w ys.length 0 el;have hle:=grownCap_le_maxLen w ys.length 0 el wc;generalize grownCap w ys.length 0 el=cap at*;have oZ:=(Good.drawn hinv (w.drawn+1));have mz:=lY.append (I:=I) (L:=L) (O:=O) (s:=i.size) (xs:=[]) (ys:=ys) (c:= #[]) (d:=(fc w b o (ys.length*i.size)).toArray) (λ i x hx=>by simp at hx) h4 (Builtin.zeroCells z0.cells (cap- ys.length)).toList [] (by simp) (by simp)
 have jB:=oZ.inv.new (e:=el) (s:=i.size) (xs:=ys) ((fc w b o (ys.length*i.size)).toArray++Builtin.zeroCells z0.cells (cap- ys.length)) cap
  (by rw[Array.size_append,size_zeroCells,hzs];simp only[size_toArray,h1];rw[←add_mul];congr 1;omega) hge hle h0 (by
   have:lY I L O i.size ys ((fc w b o (ys.length*i.size)).toArray++Builtin.zeroCells z0.cells (cap- ys.length)):=by simpa using lY.vH mz
   exact this)
 refine⟨_,_,_,_,oZ.trans jB,?_,gC⟩;have:=R.dX (I:=I) (L:=λ k=>if k=O.length then Loc.at w.heap.size (cap)else L k) (O:=O++ [.live el i.size ys]) O.length ys.length el i.size ys (by simp) rfl;simpa using this
theorem auW{t ty el:Nat}{i:TypeInfo}{z0:Value}(ht:P.underlying t=some (.slice el))(hi:P.info? el=some i)(hz:i.zero=some z0)(h0:0<i.size)(hzs:z0.cells.size=i.size)
  (hinv:Inv I L O w) {n:Nat} (hn:O[n]? =some (.nil el i.size)) {ys:List AV} {b o c:Nat} (hs:∀x∈ys,x.cells.length=i.size) (ej:ys≠[])
  (hc:∀(k:Nat) x,ys[k]? =some x->∀(j:Nat) d,x.cells[j]? =some d->∃u,w.cell? ⟨b,o+(k*i.size+j),none⟩=some u/\u.oneCell'=true/\R I L O d u)
  (h48:ys.length*i.bytes<=140737488355328) (wc:ys.length<=maxLen):
  ∃y' I' L' w',Good I L O w I' L' (O.set n (.live el i.size ys)) w'/\R I' L' (O.set n (.live el i.size ys)) (.row n ys.length) y'/\
   (Builtin.append_ #[t,t] ty #[.slice none 0 0,.slice (some ⟨b,o,none⟩) ys.length c]).run P w= .ok y' w':=by
 have ahy:n<O.length:=(List.getElem?_eq_some_iff.1 hn).1;obtain⟨h1,h2,h3,h4⟩:=qS hs hc;have ahx:0<ys.length:=List.length_pos_iff.2 ej;have hm:ys.length<=9223372036854775807:=by simpa [maxLen]using wc
 have gC:=run_append_nil (P:=P) w t ty el i z0 ht hi hz ⟨b,o,none⟩ ys.length c (fc w b o (ys.length*i.size)) h1 h2 ahx (by omega) (by omega);have hge:=grownCap_ge w ys.length 0 el;have hle:=grownCap_le_maxLen w ys.length 0 el wc;generalize grownCap w ys.length 0 el=cap at*;have oZ:=(Good.drawn hinv (w.drawn+1));have mz:=lY.append (I:=I) (L:=L) (O:=O) (s:=i.size) (xs:=[]) (ys:=ys) (c:= #[]) (d:=(fc w b o (ys.length*i.size)).toArray) (λ i x hx=>by simp at hx) h4 (Builtin.zeroCells z0.cells (cap- ys.length)).toList [] (by simp) (by simp)
 have jB:=oZ.inv.put (n:=n) (l:=Loc.at w.heap.size (cap)) (e:=el) (s:=i.size) (xs:=ys) (O':=O.set n (.live el i.size ys))
  (w':=w.drew.alloc (.cells ((fc w b o (ys.length*i.size)).toArray++Builtin.zeroCells z0.cells (cap- ys.length)) el))
  (yA ahy _) (by simp) (λ b' wW _=>heap_alloc_old w.drew _ b' wW) rfl rfl rfl (by rw[World.size_alloc];exact Nat.le_succ _) (.inl (le_refl _))
  ⟨_,⟨_,heap_alloc_new w.drew _,.inl rfl⟩,by rw[Array.size_append,size_zeroCells,hzs];simp only[size_toArray,h1];rw[←add_mul];congr 1;omega,hge,hle,h0,by
    have:lY I L O i.size ys ((fc w b o (ys.length*i.size)).toArray++Builtin.zeroCells z0.cells (cap- ys.length)):=by simpa using lY.vH mz
    exact this⟩
  (λ _=> .inr ⟨hn,ej⟩)
 refine⟨_,_,_,_,oZ.trans jB,?_,gC⟩;have:=R.dX (I:=I) (L:=λ k=>if k=n then Loc.at w.heap.size (cap)else L k) (O:=O.set n (.live el i.size ys)) n ys.length el i.size ys (by simp[ahy]) rfl;simpa using this
theorem aAr{t ty el:Nat}{i:TypeInfo}(ht:P.underlying t=some (.slice el))(hi:P.info? el=some i)
  (hinv:Inv I L O w) {n:Nat} {xs ys:List AV} {b o c:Nat} (hn:O[n]? =some (.live el i.size xs)) (hs:∀x∈ys,x.cells.length=i.size)
  (hc:∀(k:Nat) x,ys[k]? =some x->∀(j:Nat) d,x.cells[j]? =some d->∃u,w.cell? ⟨b,o+(k*i.size+j),none⟩=some u/\u.oneCell'=true/\R I L O d u)
  (abM:xs.length+ys.length<=(L n).cap):
  ∃y' I' L' w',Good I L O w I' L' (O.set n (.live el i.size (xs++ys))) w'/\R I' L' (O.set n (.live el i.size (xs++ys))) (.row n (xs.length+ys.length)) y'/\
   (Builtin.append_ #[t,t] ty #[.slice (some ⟨(L n).bO,0,none⟩) xs.length (L n).cap,.slice (some ⟨b,o,none⟩) ys.length c]).run P w= .ok y' w':=by
 obtain⟨h1,h2,h3,h4⟩:=qS hs hc;obtain⟨cur,⟨qi,g1,gg⟩,g2,g3,g4,g5,g6⟩:=hinv.obj n _ _ xs hn;have ahy:n<O.length:=(List.getElem?_eq_some_iff.1 hn).1;have hmul:xs.length*i.size+ys.length*i.size<=(L n).cap*i.size:=by rw[←add_mul];exact mul_le_mul_right _ abM
 have cV:xs.length*i.size+(fc w b o (ys.length*i.size)).length<=cur.size:=by
  rw[h1,g2];exact hmul
 have gC:=yC (P:=P) w t ty el i ht hi (L n).bO xs.length (L n).cap cur g1 gg ⟨b,o,none⟩ ys.length c (fc w b o (ys.length*i.size)) h1 h2 h3 abM cV
 have mz:=lY.append (I:=I) (L:=L) (O:=O) (s:=i.size) (xs:=xs) (ys:=ys) (c:=cur) (d:=(fc w b o (ys.length*i.size)).toArray) g6 h4 (cur.toList.drop (xs.length*i.size+(fc w b o (ys.length*i.size)).length)) (cur.toList.take (xs.length*i.size))
  (by simp only[length_take,Array.length_toList];omega) (λ k hk=>by rw[getElem?_take,if_pos hk,Array.getElem?_toList])
 have oZ:=hinv.put (n:=n) (l:=L n) (e:=el) (s:=i.size) (xs:=xs++ys) (O':=O.set n (.live el i.size (xs++ys))) (w':=w.setRow (L n).bO (cur.toList.take (xs.length*i.size)++fc w b o (ys.length*i.size)++cur.toList.drop (xs.length*i.size+(fc w b o (ys.length*i.size)).length)).toArray)
  (yA ahy _) (by simp) (λ b' _ wW=>setRow_other w _ _ _ wW) rfl rfl rfl (by simp) (.inr ⟨_,_,_,hn,rfl⟩)
  ⟨_,⟨_,setRow_heap w _ cur _ _ _ g1,gg.size (by simp only[size_toArray,List.length_append,length_take,List.length_drop,Array.length_toList];omega)⟩,by simp only[size_toArray,List.length_append,length_take,List.length_drop,Array.length_toList];omega,by simpa using abM,g4,g5,mz⟩
  (λ _=> .inl ⟨xs,hn,by simp,λ _=>rfl⟩)
 refine⟨_,_,_,_,oZ,?_,gC⟩;have:=R.dX (I:=I) (L:=λ k=>if k=n then L n else L k) (O:=O.set n (.live el i.size (xs++ys))) n (xs.length+ys.length) el i.size (xs++ys) (by simp[ahy]) (by simp);simpa using this
theorem aAs{t ty el:Nat}{i:TypeInfo}{z0:Value}(ht:P.underlying t=some (.slice el))(hi:P.info? el=some i)(hz:i.zero=some z0)(hzs:z0.cells.size=i.size)
  (hinv:Inv I L O w) {n:Nat} {xs ys:List AV} {b o c:Nat} (hn:O[n]? =some (.live el i.size xs)) (hs:∀x∈ys,x.cells.length=i.size) (ej:ys≠[])
  (hc:∀(k:Nat) x,ys[k]? =some x->∀(j:Nat) d,x.cells[j]? =some d->∃u,w.cell? ⟨b,o+(k*i.size+j),none⟩=some u/\u.oneCell'=true/\R I L O d u)
  (h48:(xs.length+ys.length)*i.bytes<=140737488355328) (wc:xs.length+ys.length<=maxLen) (abM:(L n).cap<xs.length+ys.length):
  ∃y' I' L' w',Good I L O w I' L' (O.set n (.live el i.size (xs++ys))) w'/\R I' L' (O.set n (.live el i.size (xs++ys))) (.row n (xs.length+ys.length)) y'/\
   (Builtin.append_ #[t,t] ty #[.slice (some ⟨(L n).bO,0,none⟩) xs.length (L n).cap,.slice (some ⟨b,o,none⟩) ys.length c]).run P w= .ok y' w':=by
 obtain⟨h1,h2,h3,h4⟩:=qS hs hc;obtain⟨cur,⟨qi,g1,gg⟩,g2,g3,g4,g5,g6⟩:=hinv.obj n _ _ xs hn;have ahy:n<O.length:=(List.getElem?_eq_some_iff.1 hn).1;have hm:xs.length+ys.length<=9223372036854775807:=by simpa [maxLen]using wc
 have ahx:0<ys.length:=List.length_pos_iff.2 ej
 have holds:(cur.toList.take (xs.length*i.size)).length=xs.length*i.size:=by
  simp only[length_take,Array.length_toList,g2];exact Nat.min_eq_left (mul_le_mul_right _ g3)
 have gC:=run_append_grow (P:=P) w t ty el i z0 ht hi hz ⟨(L n).bO,0,none⟩ xs.length (L n).cap (cur.toList.take (xs.length*i.size)) holds (λ j v hv=>by
  rw[add_lit,Nat.zero_add,gD g1];rw[getElem?_take]at hv
  split at hv
  ·simpa using hv
  ·cases hv) ⟨b,o,none⟩ ys.length c (fc w b o (ys.length*i.size)) h1 h2 (by omega) (by omega) (growslice_fits (by omega) h48)
 have hge:=grownCap_ge w (xs.length+ys.length) (L n).cap el;have hle:=grownCap_le_maxLen w (xs.length+ys.length) (L n).cap el wc;generalize grownCap w (xs.length+ys.length) (L n).cap el=cap at*
 have mz:=lY.append (I:=I) (L:=L) (O:=O) (s:=i.size) (xs:=xs) (ys:=ys) (c:=cur) (d:=(fc w b o (ys.length*i.size)).toArray) g6 h4 (Builtin.zeroCells z0.cells (cap- (xs.length+ys.length))).toList (cur.toList.take (xs.length*i.size))
  holds (λ k hk=>by rw[getElem?_take,if_pos hk,Array.getElem?_toList])
 have ay7:=(Good.drawn hinv (w.drawn+1))
 have oZ:=ay7.inv.put (n:=n) (l:=Loc.at w.heap.size (cap)) (e:=el) (s:=i.size) (xs:=xs++ys) (O':=O.set n (.live el i.size (xs++ys)))
  (w':=w.drew.alloc (.cells ((cur.toList.take (xs.length*i.size)).toArray++(fc w b o (ys.length*i.size)).toArray++Builtin.zeroCells z0.cells (cap- (xs.length+ys.length))) el))
  (yA ahy _) (by simp) (λ b' wW _=>heap_alloc_old w.drew _ b' wW) rfl rfl rfl (by rw[World.size_alloc];exact Nat.le_succ _) (.inl (le_refl _))
  ⟨_,⟨_,heap_alloc_new w.drew _,.inl rfl⟩,by
     simp only[Array.size_append,size_zeroCells,hzs,size_toArray,holds,h1];rw[←add_mul,←add_mul];congr 1;omega,by simpa using hge,hle,g5,lY.vH mz⟩
  (λ _=> .inl ⟨xs,hn,by simp,λ he=>by simp at he;exact(ej he).elim⟩)
 refine⟨_,_,_,_,ay7.trans oZ,?_,gC⟩;have:=R.dX (I:=I) (L:=λ k=>if k=n then Loc.at w.heap.size (cap)else L k) (O:=O.set n (.live el i.size (xs++ys))) n (xs.length+ys.length) el i.size (xs++ys) (by simp[ahy]) (by simp);simpa using this
theorem aDd{t ty el s by_:Nat}{z:AV}(ht:P.underlying t=some (.slice el))(ez:zB P el=some (s,by_,z)){x y:AV}{vx vy:Value}
  (hinv:Inv I L O w) (hx:R I L O x vx) (hy:R I L O y vy)
  (hk0:xg O y λ ys=>(∀y∈ys,y.cells.length=s)/\qC O x el s by_ ys K):
  ∃x' O' y' I' L' w',K x' O'/\Good I L O w I' L' O' w'/\R I' L' O' x' y'/\(Builtin.append_ #[t,t] ty #[vx,vy]).run P w= .ok y' w':=by
 obtain⟨i,z0,hi,hz,hz0,rI,hby,hzl,h0,hzs,nQ⟩:=nI ez;obtain⟨ys,ya,c,⟨hs,hk⟩,rfl,ap2⟩:=aA9 hinv hy hk0;clear hk0;subst rI;subst hby;cases x
 case an=>
  obtain⟨h48,wc,hk0,hk1⟩:=hk;cases hx;by_cases ej:ys= []
  ·subst ej;exact⟨_,O,_,I,L,w,hk0 rfl,.refl hinv,.an,vq ht hi none ya 0 0 c (le_refl _) w⟩
  ·obtain⟨b,o,rfl,hc⟩:=ap2 i.size hs ej;obtain⟨y',I',L',w',q1,q2,q3⟩:=aDe ht hi hz h0 hzs hinv hs ej hc h48 wc (c:=c);exact⟨_,_,y',I',L',w',hk1 ej,q1,q2,q3⟩
 case row n len=>
  cases hn:O[n]? with
  |none=>simp only[qC,hn]at hk
  |some ob=>
   cases ob with
   |dead=>simp only[qC,hn]at hk
   |own a=>simp only[qC,hn]at hk
   |jq g=>simp only[qC,hn]at hk
   |nil t' s'=>
    simp only[qC,hn]at hk;obtain⟨rfl,rfl,rfl,h48,wc,hk0,hk1⟩:=hk;obtain⟨rfl,_⟩:=hx.qO hn;by_cases ej:ys= []
    ·subst ej;exact⟨_,O,_,I,L,w,hk0 rfl,.refl hinv,.im n _ _ hn,vq ht hi none ya 0 0 c (le_refl _) w⟩
    ·obtain⟨b,o,rfl,hc⟩:=ap2 i.size hs ej;obtain⟨y',I',L',w',q1,q2,q3⟩:=auW ht hi hz h0 hzs hinv hn hs ej hc h48 wc (c:=c);exact⟨_,_,y',I',L',w',hk1 ej,q1,q2,q3⟩
   |live t' s' xs=>
    simp only[qC,hn]at hk;obtain⟨rfl,rfl,hlen,h48,wc,hk⟩:=hk;have hv:=hx.iL hn hlen;subst hv;subst hlen;have ahy:n<O.length:=(List.getElem?_eq_some_iff.1 hn).1;by_cases ej:ys= []
    ·subst ej;obtain⟨cur,⟨qi,g1,gg⟩,g2,g3,g4,g5,g6⟩:=hinv.obj n _ _ xs hn
     have hO:O.set n (.live t' i.size (xs++ []))=O:=by
      rw[List.append_nil];apply List.ext_getElem?;intro k;rw[yA ahy];split
      ·rename_i hk';rw[hk',hn]
      ·rfl
     rw[hO]at hk;exact⟨_,O,_,I,L,w,hk,.refl hinv,hx,vq ht hi _ ya xs.length _ c g3 w⟩
    ·obtain⟨b,o,rfl,hc⟩:=ap2 i.size hs ej;by_cases abM:xs.length+ys.length<=(L n).cap
     ·obtain⟨y',I',L',w',q1,q2,q3⟩:=aAr ht hi hinv hn hs hc abM (c:=c);exact⟨_,_,y',I',L',w',hk,q1,q2,q3⟩
     ·obtain⟨y',I',L',w',q1,q2,q3⟩:=aAs ht hi hz hzs hinv hn hs ej hc h48 wc (by omega) (c:=c);exact⟨_,_,y',I',L',w',hk,q1,q2,q3⟩
 all_goals exact hk.elim
end
def ysS(s:ByteArray):List AV:=s.data.toList.map λ c=> .v (.int .u8 c.toNat)
section
variable {P:Program} {I:eW} {L:Nat->Loc} {O:List aj} {w:World} {K:AV->List aj->Prop} {e:Env} {a:Act}
theorem aam(w:World)(t u ty e:TypeId)(i:TypeInfo)(z:Value)(ki:IntKind)(ht:P.underlying t=some (.slice e))(hu:P.underlying u=some (.int ki))(hi:P.info? e=some i)(hz:i.zero=some z)(h0:0<i.size)
  (k:Nat) (hk:0<k) (h63:(k:Int)<=9223372036854775807) (h48:k*i.bytes<=281474976710656):
  (Builtin.append_ #[t,u] ty #[.slice none 0 0,.int .i64 k]).run P w=
   .ok (.slice (some ⟨w.heap.size,0,none⟩) k (grownCap w k 0 e)) (w.drew.alloc (.cells (Builtin.zeroCells z.cells k++Builtin.zeroCells z.cells (grownCap w k 0 e- k)) e)):=by
 have hn:k≠0:=by omega
 have aRr:¬(9223372036854775807<(k:Int)):=by omega
 have aRt:¬(281474976710656<Builtin.nextslicecap k 0*i.bytes):=by rw[nextslicecap_zero hk];omega
 have hw:IntKind.i64.wrap (k:Int)=k:=by
  simp[IntKind.wrap,IntKind.signed,IntKind.bits]
  split<;>omega
 have aRs:¬(281474976710656<(k:Int)*(i.bytes:Int)):=by
  have:((k*i.bytes:Nat):Int)<=281474976710656:=by omega
  rw[Int.natCast_mul]at this;omega
 have aK:¬((k:Int)<0):=by omega
 have hs:¬(k*i.size=0):=Nat.mul_ne_zero hn (by omega);simp[Builtin.append_,run_underlying ht,run_underlying hu,sizeOf,typeInfo,zeroValue,hi,hz,asInt,asIntOf,hw,aK,aRs,Builtin.firstCells,hn,hs,aRr,aRt,Question.forced,newRow,grownCap]
theorem aAq{t u ty el:Nat}{i:TypeInfo}{z0:Value}{z:AV}{ki:IntKind}(ht:P.underlying t=some (.slice el))(hu:P.underlying u=some (.int ki)){k:Nat}(hi:P.info? el=some i)(hz:i.zero=some z0)(hz0:auX z0=some z)(h0:0<i.size)(hzs:z0.cells.size=i.size)
  (nQ:z.storable=true) (hzl:z.cells.length=i.size) (hinv:Inv I L O w) (hk:0<k) (h48:k*i.bytes<=281474976710656) (wc:k<=maxLen):
  ∃y' I' L' w',Good I L O w I' L' (O++ [.live el i.size (List.replicate k z)]) w'/\R I' L' (O++ [.live el i.size (List.replicate k z)]) (.row O.length k) y'/\
   (Builtin.append_ #[t,u] ty #[.slice none 0 0,.int .i64 k]).run P w= .ok y' w':=by
 have hm:k<=9223372036854775807:=by simpa [maxLen]using wc
 have gC:=aam (P:=P) w t u ty el i z0 ki ht hu hi hz h0 k hk (by omega) h48;have hge:=grownCap_ge w k 0 el;have hle:=grownCap_le_maxLen w k 0 el wc;generalize grownCap w k 0 el=cap at*;have oZ:=(Good.drawn hinv (w.drawn+1))
 have h4:lY I L O i.size (List.replicate k z) (Builtin.zeroCells z0.cells k):=by
  have:=lY.made (I:=I) (L:=L) (O:=O) (cap:=k) (n:=k) (lX hz0) nQ hzl h0 (le_refl _);unfold Builtin.zeroCells;rw[hzs]at this⊢;exact this
 have rI:(Builtin.zeroCells z0.cells k).size=k*i.size:=by rw[size_zeroCells,hzs]
 have mz:=lY.append (I:=I) (L:=L) (O:=O) (s:=i.size) (xs:=[]) (ys:=List.replicate k z) (c:= #[]) (d:=Builtin.zeroCells z0.cells k) (λ i x hx=>by simp at hx) h4 (Builtin.zeroCells z0.cells (cap- k)).toList [] (by simp) (by simp)
 have jB:=oZ.inv.new (e:=el) (s:=i.size) (xs:=List.replicate k z) (Builtin.zeroCells z0.cells k++Builtin.zeroCells z0.cells (cap- k)) cap
  (by rw[Array.size_append,size_zeroCells,size_zeroCells,hzs,←add_mul];congr 1;omega) (by simpa using hge) hle h0 (by
   have:lY I L O i.size (List.replicate k z) (Builtin.zeroCells z0.cells k++Builtin.zeroCells z0.cells (cap- k)):=by simpa using lY.vH mz
   exact this)
 refine⟨_,_,_,_,oZ.trans jB,?_,gC⟩;have:=R.dX (I:=I) (L:=λ m=>if m=O.length then Loc.at w.heap.size (cap)else L m) (O:=O++ [.live el i.size (List.replicate k z)]) O.length k el i.size (List.replicate k z) (by simp) (by simp);simpa using this
end
section
variable {P:Program} {I:eW} {L:Nat->Loc} {O:List aj} {w:World} {K:AV->List aj->Prop} {e:Env} {a:Act}
variable {d:Option Tmp} {ty:TypeId} {pos:String} {af:Array Edge} {g:Option (Nat×Bool)} {ao:gj}
theorem aBk(hi:Inv I L O w)(he:∀t,R I L O (e t) (a.tmps.getD t undef)){x:Operand}(hc:eY P ty (.move x)=some ao)(hk:wpOp P ao e O K):
  kC P I L O w (execOp a.eval ⟨d,.move x,ty,pos,af,g⟩) K:=by
 simp only[eY,bind_eq_bind,bind_eq_some_iff,Option.some.injEq]at hc;obtain⟨ax,hx,rfl⟩:=hc;exact kC.same hi hk (aO hx he) rfl
theorem apa(hi:Inv I L O w)(he:∀t,R I L O (e t) (a.tmps.getD t undef)){x:Operand}(hc:eY P ty (.assign x)=some ao)(hk:wpOp P ao e O K):
  kC P I L O w (execOp a.eval ⟨d,.assign x,ty,pos,af,g⟩) K:=by
 simp only[eY,bind_eq_bind,bind_eq_some_iff,Option.some.injEq]at hc;obtain⟨ax,hx,rfl⟩:=hc;exact kC.same hi hk (aO hx he) rfl
theorem axw(hi:Inv I L O w)(he:∀t,R I L O (e t) (a.tmps.getD t undef)){x y z:Operand}(hc:eY P ty (.pick x y z)=some ao)(hk:wpOp P ao e O K):
  kC P I L O w (execOp a.eval ⟨d,.pick x y z,ty,pos,af,g⟩) K:=by
 simp only[eY,bind_eq_bind,bind_eq_some_iff,Option.some.injEq]at hc;obtain⟨ax,hx,ay,hy,az,hz,rfl⟩:=hc;have rx:=aO hx he;simp only[wpOp]at hk
 split at hk
 ·rename_i t ht;rw[ht]at rx;have:=rx.bool;refine kC.same hi hk (y:=if t=true then a.eval y else a.eval z) ?_ ?_
  ·cases t
   ·simpa using aO hz he
   ·simpa using aO hy he
  ·simp[execOp,this,asBool]
 ·exact hk.elim
theorem atl(hi:Inv I L O w){t:TypeId}(hc:eY P ty (.alloc t)=some ao)(hk:wpOp P ao e O K):
  kC P I L O w (execOp a.eval ⟨d,.alloc t,ty,pos,af,g⟩) K:=by
 simp only[eY,bind_eq_bind,bind_eq_some_iff,Option.some.injEq]at hc;obtain⟨⟨s,b,z⟩,hz,rfl⟩:=hc;obtain⟨i,z0,h1,h2,h3,rfl,rfl,h4,h5,h6,h7⟩:=nI hz;obtain⟨q1,q2⟩:=hi.box t (lX (I:=I) (L:=L) (O:=O) h3) h7 h4 h5;exact⟨_,_,_,_,_,_,hk,q1,q2,.inl (by simp[execOp,Instr.alloc,zeroValue,typeInfo,h1,h2,newVar,newRow])⟩
theorem aBo(hi:Inv I L O w)(he:∀t,R I L O (e t) (a.tmps.getD t undef)){t:TypeId}{x:Operand}(hc:eY P ty (.box t x)=some ao)(hk:wpOp P ao e O K):
  kC P I L O w (execOp a.eval ⟨d,.box t x,ty,pos,af,g⟩) K:=by
 simp only[eY,bind_eq_bind,bind_eq_some_iff]at hc;obtain⟨i,fR,hc⟩:=hc
 split at hc
 ·rename_i hs;simp only[bind_eq_some_iff,Option.some.injEq]at hc;obtain⟨ax,hx,rfl⟩:=hc;obtain⟨h1,h2,h3⟩:=hk;obtain⟨q1,q2⟩:=hi.box t (aO hx he) h2 h1 hs;exact⟨_,_,_,_,_,_,h3,q1,q2,.inl (by simp[execOp,Instr.box,newVar,newRow])⟩
 ·cases hc
theorem axz(hi:Inv I L O w)(he:∀t,R I L O (e t) (a.tmps.getD t undef)){t:TypeId}{x:Operand}(hc:eY P ty (.load t x)=some ao)(hk:wpOp P ao e O K):
  kC P I L O w (execOp a.eval ⟨d,.load t x,ty,pos,af,g⟩) K:=by
 simp only[eY,bind_eq_bind,bind_eq_some_iff,Option.some.injEq]at hc;obtain⟨n,hn,ax,hx,rfl⟩:=hc;have rx:=aO hx he;simp only[wpOp]at hk;generalize ax.ev e=A at rx hk;generalize hX:a.eval x=X at rx;cases A
 case bW y f=>
  obtain⟨h1,h2⟩:=hk;cases rx with
  |bW _ _ bO base cg hv hr=>
   have eI:∀j,j<n.getD 1->∃c,y.cells[f+j]? =some c:=λ j hj=>⟨y.cells[f+j]'(by omega),by simp⟩
   have gC:=xp (P:=P) (t:=t) hn bO (base+f) (λ j=>cg (f+j)) w (λ j hj=>by
    obtain⟨c,hc⟩:=eI j hj;rw[add_assoc];exact hi.ni _ _ _ (hv _ c hc).1)
   refine kC.same hi h2 (qU (cg:=λ j=>cg (f+j)) h1 λ j c hj aK=>hr _ c hj) ?_;simp only[execOp,hX];simp[gC]
 case ptr k len i f=>
  cases hO:O[k]? with
  |none=>simp only[hO]at hk
  |some ob=>
   cases ob with
   |dead=>simp only[hO]at hk
   |own a=>simp only[hO]at hk
   |jq g=>simp only[hO]at hk
   |nil t' s'=>simp only[hO]at hk
   |live t' s xs=>
    simp only[hO]at hk;obtain⟨hl,aK,hf,hk⟩:=hk;have:=rx.qc hO hl;subst this;obtain⟨c,⟨qi,g1,gg⟩,g2,g3,g4,g5,g6⟩:=hi.obj k _ _ xs hO;have hx':xs[i]? =some (xs.getD i .top):=by simp[List.getD,show i<xs.length by omega]
    obtain⟨g7,g8⟩:=g6 i _ hx';generalize xs.getD i .top=y at*
    have hex:∀j,∃u,j<n.getD 1->c[i*s+(f+j)]? =some u/\∀c',y.cells[f+j]? =some c'->R I L O c' u:=by
     intro j;by_cases hj:j<n.getD 1
     ·have nS:y.cells[f+j]? =some (y.cells[f+j]'(by omega)):=by simp
      obtain⟨u,hu,_,hr⟩:=g8 (f+j) _ nS;exact⟨u,λ _=>⟨hu,λ c'' h''=>by rw[nS]at h'';cases h'';exact hr⟩⟩
     ·exact⟨undef,λ h=>(hj h).elim⟩
    let cg:Nat->Value:=λ j=>(hex j).choose
    have anx:∀j,j<n.getD 1->c[i*s+(f+j)]? =some (cg j)/\∀c',y.cells[f+j]? =some c'->R I L O c' (cg j):=λ j hj=>(hex j).choose_spec hj
    have gC:=xp (P:=P) (t:=t) hn (L k).bO (i*s+f) cg w (λ j hj=>by
     rw[gD g1,add_assoc];exact(anx j hj).1)
    refine kC.same hi hk (qU (cg:=cg) hf λ j c' hj dm=>(anx j dm).2 c' hj) ?_;simp only[execOp,hX];simp[gC]
 all_goals exact hk.elim
theorem aiq{x y:AV}{f:Nat}(hf:f+y.cells.length<=x.cells.length)(j:Nat):
  (ua x f y).cells.length=x.cells.length/\(ua x f y).cells[j]? =if f<=j/\j<f+y.cells.length then y.cells[j- f]? else x.cells[j]? :=by
 unfold ua
 split
 ·rename_i h;obtain⟨rfl,hl⟩:=h;refine⟨hl,?_⟩
  split
  ·simp
  ·rename_i hn;rw[getElem?_eq_none (by omega),getElem?_eq_none (by omega)]
 ·generalize hxs:x.cells=xs at*;generalize hys:y.cells=ys at*
  show(xs.take f++ys++xs.drop (f+ys.length)).length=xs.length/\(xs.take f++ys++xs.drop (f+ys.length))[j]? =_;refine⟨by simp;omega,?_⟩
  split
  ·rename_i h;rw[append_assoc,getElem?_append_right (by simp;omega),getElem?_append_left (by simp;omega)];congr 1;simp;omega
  ·rename_i h;by_cases aK:j<f
   ·rw[append_assoc,getElem?_append_left (by simp;omega),getElem?_take,if_pos aK]
   ·rw[getElem?_append_right (by simp;omega),getElem?_drop];congr 1;simp;omega
theorem atf(hi:Inv I L O w)(he:∀t,R I L O (e t) (a.tmps.getD t undef)){t:TypeId}{x y:Operand}(hc:eY P ty (.store t x y)=some ao)(hk:wpOp P ao e O K):
  kC P I L O w (execOp a.eval ⟨d,.store t x y,ty,pos,af,g⟩) K:=by
 simp only[eY,bind_eq_bind,bind_eq_some_iff,Option.some.injEq]at hc;obtain⟨inf,we,ax,hx,ay,hy,rfl⟩:=hc;have rx:=aO hx he;have ry:=aO hy he;simp only[wpOp]at hk;generalize ax.ev e=A at rx hk;generalize ay.ev e=B at ry hk;generalize hX:a.eval x=X at rx;generalize hY:a.eval y=Y at ry;cases A
 case ptr k len i f=>
  cases hO:O[k]? with
  |none=>simp only[hO]at hk
  |some ob=>
   cases ob with
   |dead=>simp only[hO]at hk
   |own a=>simp only[hO]at hk
   |jq g=>simp only[hO]at hk
   |nil t' s'=>simp only[hO]at hk
   |live t' s xs=>
    simp only[hO]at hk;obtain⟨hl,aK,hm,nQ,hf,hk⟩:=hk;have:=rx.qc hO hl;subst this;obtain⟨c,⟨qi,g1,gg⟩,g2,g3,g4,g5,g6⟩:=hi.obj k _ _ xs hO;have aQL:k<O.length:=(List.getElem?_eq_some_iff.1 hO).1;have hx':xs[i]? =some (xs.getD i .top):=by simp[List.getD,show i<xs.length by omega]
    obtain⟨g7,g8⟩:=g6 i _ hx';obtain⟨r1,r2⟩:=ry.vl nQ;have afB:=ry.aIm nQ;have hYl:Y.cells.toList.length=B.cells.length:=by simp[r1]
    have mz:=akO (s:=s) (show i<xs.length by omega) (show s- 1<s by omega);have aug:xs.length*s<=c.size:=by rw[g2];exact mul_le_mul_right _ g3
    have cV:i*s+f+0+Y.cells.toList.length<=c.size:=by omega
    have gC:=ny (P:=P) (L k).bO (i*s+f) s t' qi Y.cells.toList 0 c w g1 gg cV afB
    have hc2:∀j:Nat,((c.toList.take (i*s+f+0)++Y.cells.toList++c.toList.drop (i*s+f+0+Y.cells.toList.length)).toArray)[j]? =if i*s+f<=j/\j<i*s+f+B.cells.length then Y.cells[j- (i*s+f)]? else c[j]? :=by
     intro j;simp only[getElem?_toArray,add_zero]
     split
     ·rename_i h;rw[append_assoc,getElem?_append_right (by simp;omega),getElem?_append_left (by simp;omega),Array.getElem?_toList];congr 1;simp;omega
     ·rename_i h;by_cases dm:j<i*s+f
      ·rw[append_assoc,getElem?_append_left (by simp;omega),getElem?_take,if_pos dm,Array.getElem?_toList]
      ·rw[getElem?_append_right (by simp;omega),getElem?_drop,Array.getElem?_toList];congr 1;simp;omega
    generalize hC2:(c.toList.take (i*s+f+0)++Y.cells.toList++c.toList.drop (i*s+f+0+Y.cells.toList.length)).toArray=c2 at*;have aNV:c2.size=c.size:=by rw[←hC2];simp;omega
    have oZ:=hi.put (n:=k) (l:=L k) (e:=t') (s:=s) (xs:=xs.set i (ua (xs.getD i .top) f B)) (O':=O.set k (.live t' s (xs.set i (ua (xs.getD i .top) f B)))) (w':=w.setRow (L k).bO c2)
     (yA aQL _) (by simp) (λ b' _ wW=>setRow_other w _ _ _ wW) rfl rfl rfl (by simp) (.inr ⟨_,_,_,hO,rfl⟩)
     ⟨c2,⟨_,setRow_heap w _ c _ _ _ g1,gg.size aNV⟩,by rw[aNV,g2],by simpa using g3,g4,g5,by
      intro i' z hz;rw[List.getElem?_set]at hz;by_cases hii:i=i'
      ·subst hii;rw[if_pos rfl,if_pos (by omega)]at hz;cases hz;refine⟨by rw[(aiq (by omega) 0).1,g7],λ j q hj=> ?_⟩;rw[(aiq (by omega) j).2]at hj;by_cases hj':f<=j/\j<f+B.cells.length
       ·rw[if_pos hj']at hj;obtain⟨u,hu,ho,hr⟩:=r2 _ q hj;refine⟨u,?_,ho,hr⟩;rw[hc2,if_pos (by omega),←hu];congr 1;omega
       ·rw[if_neg hj']at hj;obtain⟨u,hu,ho,hr⟩:=g8 j q hj;refine⟨u,?_,ho,hr⟩;rw[hc2,if_neg (by omega),hu]
      ·rw[if_neg hii]at hz;obtain⟨q1,q2⟩:=g6 i' z hz;refine⟨q1,λ j q hj=> ?_⟩;obtain⟨u,hu,ho,hr⟩:=q2 j q hj;have hjs:j<s:=by rw[←q1];exact(List.getElem?_eq_some_iff.1 hj).1
       refine⟨u,?_,ho,hr⟩;have ej:=ayI (i:=i') (i':=i) hjs (λ h=>hii h.symm);rw[hc2,if_neg (by omega),hu]⟩
     (λ _=> .inl ⟨xs,hO,by simp,λ _=>rfl⟩)
    refine⟨_,_,undef,_,_,_,hk,oZ,.top _,.inr ⟨?_,rfl⟩⟩;have rI:Y.cells.size=inf.size:=by omega
    simp only[execOp,hX,hY];simp[Instr.storeAt,Instr.sureAddr,storeVar,sizeOf,typeInfo,we,rI,gC]
 all_goals exact hk.elim
end
end Go.Ab
