/- Part of a proof: the functions that the law reaches, walked by the abstract logic of the texts Ab. -/
import GoSem.Dispatch
import Derived.Tactics
import Derived.Below
import Derived.Laws.AppendOwn
import Derived.Laws.OwnMore
import Derived.Laws.MakeOwn
import Derived.Laws.Tables
import Derived.Laws.Cells
import Derived.Laws.IdiomStrings
import Derived.MapKept
import Derived.LaidEql
open Nat(le_refl le_trans lt_of_lt_of_le add_zero min_eq_left add_mul mul_le_mul_right add_assoc zero_add le_succ)
open Option(bind_eq_bind bind_eq_some_iff pure_def map_eq_some_iff map_some)
open List(append_nil ext_getElem? getElem?_take getElem?_set_ne getElem?_append_left getElem?_set_self getElem?_append_right length_take getElem?_eq_none getElem?_drop mapM_cons mem_of_getElem? append_assoc getElem?_toArray size_toArray length_append length_drop)
set_option linter.unusedSimpArgs false
set_option linter.unusedVariables false
namespace Go.Ab
def pb:List (Nat×Nat×Value):=[]
def my:List (Nat×Nat):=[]
def afQ(_:Nat)(_:Value):Bool:=true
end Go.Ab
namespace Go.Ab
abbrev du:=Nat->Nat->Option Value
inductive AV where
 |top
 |v (x:Value)
 |aw
 |sl (xs:List AV)
 |cj (x:AV) (f:Nat)
 |row (n len:Nat)
 |ptr (n len i f:Nat)
 |fn (f:FuncId) (aX:List AV)
 |agg (cs:List AV)
 |a9 (vs:List AV)
 |own (n:Nat)
 |v7
instance:Inhabited AV:=⟨.top⟩
def AV.cells:AV->List AV
 | .agg cs=>cs
 |x=>[x]
def AV.isAgg:AV->Bool
 | .agg _=>true
 |_=>false
def AV.cg:AV->Bool
 | .agg _| .a9 _| .top=>false
 |_=>true
inductive gJ where
 |mp (es:List (AV×AV))
 |it (s:ByteArray) (pos:Nat)
def gJ.mQ:gJ->Bool
 | .mp _=>true
 | .it _ _=>false
def gJ.val(g:gJ)(b:Nat):Value:=if g.mQ=true then .map (some b)else .pointer (some ⟨b,0,none⟩)
theorem gJ.val_one(g:gJ)(b:Nat):(g.val b).oneCell'=true:=by cases g<;>rfl
inductive ad where
 |dead
 |nil (e s:Nat)
 |live (e s:Nat) (xs:List AV)
 |own (a:AV)
 |cZ (g:gJ)
instance:Inhabited ad:=⟨.dead⟩
structure Loc where
 bf:Nat
 cap:Nat
 val:Value
 mem:du
abbrev Loc.at(b c:Nat):Loc:=⟨b,c,.slice none 0 0,λ _ _=>none⟩
@[simp] theorem Loc.aC9 (b c:Nat):(Loc.at b c).bf=b:=rfl
@[simp] theorem Loc.aC8 (b c:Nat):(Loc.at b c).cap=c:=rfl
inductive R(I:du)(L:Nat->Loc)(O:List ad):AV->Value->Prop
 |top (x:Value):R I L O .top x
 |v (x:Value):x.oneCell'=true->R I L O (.v x) x
 |aw:R I L O .aw (.slice none 0 0)
 |mq (a:Option Addr) (cap:Nat):R I L O (.sl []) (.slice a 0 cap)
 |sl (xs:List AV) (bf off cap s:Nat) (bz:Nat->Nat->Value):xs.length<=cap->xs≠[]->
  (∀(i:Nat) (x:AV),xs[i]? =some x->x.cells.length=s)->
  (∀(i:Nat) (x:AV) (j:Nat) (c:AV),xs[i]? =some x->x.cells[j]? =some c->I bf (off+i*s+j)=some (bz i j)/\(bz i j).oneCell'=true)->
  (∀(i:Nat) (x:AV) (j:Nat) (c:AV),xs[i]? =some x->x.cells[j]? =some c->R I L O c (bz i j))->
  R I L O (.sl xs) (.slice (some ⟨bf,off,none⟩) xs.length cap)
 |cj (x:AV) (f bf base:Nat) (bz:Nat->Value):
  (∀(j:Nat) (c:AV),x.cells[j]? =some c->I bf (base+j)=some (bz j)/\(bz j).oneCell'=true)->
  (∀(j:Nat) (c:AV),x.cells[j]? =some c->R I L O c (bz j))->
  R I L O (.cj x f) (.pointer (some ⟨bf,base+f,none⟩))
 |cf (n len e s:Nat) (xs:List AV):O[n]? =some (.live e s xs)->xs.length=len->
  R I L O (.row n len) (.slice (some ⟨(L n).bf,0,none⟩) len (L n).cap)
 |gu (n e s:Nat):O[n]? =some (.nil e s)->R I L O (.row n 0) (.slice none 0 0)
 |eQ (n len:Nat) (x:Value):n<O.length->(∀e s,O[n]? ≠some (.nil e s))->(∀e s xs,O[n]? =some (.live e s xs)->len<xs.length)->x.oneCell'=true->
  R I L O (.row n len) x
 |dV (n len i f e s:Nat) (xs:List AV):O[n]? =some (.live e s xs)->xs.length=len->
  R I L O (.ptr n len i f) (.pointer (some ⟨(L n).bf,i*s+f,none⟩))
 |gv (n len i f:Nat) (x:Value):n<O.length->(∀e s,O[n]? ≠some (.nil e s))->(∀e s xs,O[n]? =some (.live e s xs)->len<xs.length)->x.oneCell'=true->
  R I L O (.ptr n len i f) x
 |fn (f:FuncId) (aX:List AV) (vs:Array Value):aX.length=vs.size->
  (∀(i:Nat) (c:AV) (x:Value),aX[i]? =some c->vs[i]? =some x->R I L O c x)->R I L O (.fn f aX) (.func (.func f) #[] vs)
 |agg (cs:List AV) (vs:Array Value):cs.length=vs.size->
  (∀(i:Nat) (c:AV) (x:Value),cs[i]? =some c->vs[i]? =some x->R I L O c x)->R I L O (.agg cs) (.agg vs)
 |a9 (cs:List AV) (vs:Array Value):cs.length=vs.size->
  (∀(i:Nat) (c:AV) (x:Value),cs[i]? =some c->vs[i]? =some x->R I L O c x)->R I L O (.a9 cs) (.tuple vs)
 |dW (n:Nat) (a:AV):O[n]? =some (.own a)->(L n).val.oneCell'=true->R I L O (.own n) (L n).val
 |gW (n:Nat) (g:gJ):O[n]? =some (.cZ g)->R I L O (.own n) (g.val (L n).bf)
 |eR (n:Nat) (x:Value):n<O.length->(∀a,O[n]? ≠some (.own a))->(∀g,O[n]? ≠some (.cZ g))->x.oneCell'=true->R I L O (.own n) x
 |v7 (t:TypeId) (x:Value):R I L O .v7 (.iface t x)
structure Ext(I:du)(L:Nat->Loc)(O:List ad)(I':du)(L':Nat->Loc)(O':List ad):Prop where
 kJ:∀b o x,I b o=some x->I' b o=some x
 len:O.length<=O'.length
 obj:∀n,n<O.length->∀e s xs,O'[n]? =some (.live e s xs)->(∃ys,O[n]? =some (.live e s ys)/\ys.length<=xs.length/\(ys.length=xs.length->L' n=L n))∨(O[n]? =some (.nil e s)/\xs≠[])
 nil:∀n,n<O.length->∀e s,O'[n]? =some (.nil e s)->O[n]? =some (.nil e s)
 own:∀n,n<O.length->∀a,O'[n]? =some (.own a)->(∃b,O[n]? =some (.own b))/\(L' n).val=(L n).val
 cZ:∀n,n<O.length->∀g,O'[n]? =some (.cZ g)->(∃h,O[n]? =some (.cZ h)/\h.mQ=g.mQ)/\(L' n).bf=(L n).bf
theorem Ext.refl(I:du)(L:Nat->Loc)(O:List ad):Ext I L O I L O:=
 ⟨λ _ _ _ h=>h,le_refl _,λ _ _ _ _ xs h=> .inl ⟨xs,h,le_refl _,λ _=>rfl⟩,λ _ _ _ _ h=>h,λ _ _ a h=>⟨⟨a,h⟩,rfl⟩,λ _ _ g h=>⟨⟨g,h,rfl⟩,rfl⟩⟩
theorem Ext.trans{I I' I'':du}{L L' L'':Nat->Loc}{O O' nc:List ad}(h:Ext I L O I' L' O')(k:Ext I' L' O' I'' L'' nc):Ext I L O I'' L'' nc:=by
 refine⟨λ b o x hx=>k.kJ _ _ _ (h.kJ _ _ _ hx),le_trans h.len k.len,λ n hn e s xs hx=> ?_,λ n hn e s hx=>h.nil n hn e s (k.nil n (lt_of_lt_of_le hn h.len) e s hx),λ n hn a hx=> ?_,λ n hn g hx=> ?_⟩;rotate_left
 ·obtain⟨⟨b,hb⟩,h1⟩:=k.own n (lt_of_lt_of_le hn h.len) a hx;obtain⟨hc,h2⟩:=h.own n hn b hb;exact⟨hc,h1.trans h2⟩
 ·obtain⟨⟨b,hb,hk⟩,h1⟩:=k.cZ n (lt_of_lt_of_le hn h.len) g hx;obtain⟨⟨c,hc,hm⟩,h2⟩:=h.cZ n hn b hb;exact⟨⟨c,hc,hm.trans hk⟩,h1.trans h2⟩
 rcases k.obj n (lt_of_lt_of_le hn h.len) e s xs hx with⟨ys,hy,hle,hL⟩|⟨hy,bn⟩
 ·rcases h.obj n hn e s ys hy with⟨zs,hz,avd,hL'⟩|⟨hz,bn⟩
  ·exact .inl ⟨zs,hz,le_trans avd hle,λ he=>(hL (by omega)).trans (hL' (by omega))⟩
  ·refine .inr ⟨hz,λ h0=>bn ?_⟩;subst h0;exact List.eq_nil_of_length_eq_zero (by simpa using hle)
 ·exact .inr ⟨h.nil n hn e s hy,bn⟩
theorem Ext.asA{I I':du}{L L':Nat->Loc}{O O':List ad}(h:Ext I L O I' L' O'){n len:Nat}(hn:n<O.length)(xA:∀e s,O[n]? ≠some (.nil e s))(hs:∀e s xs,O[n]? =some (.live e s xs)->len<xs.length):
  n<O'.length/\(∀e s,O'[n]? ≠some (.nil e s))/\∀e s xs,O'[n]? =some (.live e s xs)->len<xs.length:=by
 refine⟨lt_of_lt_of_le hn h.len,λ e s he=>xA e s (h.nil n hn e s he),λ e s xs hx=> ?_⟩;rcases h.obj n hn e s xs hx with⟨ys,hy,hle,_⟩|⟨hy,_⟩
 ·exact lt_of_lt_of_le (hs e s ys hy) hle
 ·exact(xA e s hy).elim
theorem Ext.live{I I':du}{L L':Nat->Loc}{O O':List ad}(h:Ext I L O I' L' O'){n len e s:Nat}{xs:List AV}(hn:O[n]? =some (.live e s xs))(hl:xs.length=len):
  (∃ys,O'[n]? =some (.live e s ys)/\ys.length=len/\L' n=L n)∨(n<O'.length/\(∀e s,O'[n]? ≠some (.nil e s))/\∀e s xs,O'[n]? =some (.live e s xs)->len<xs.length):=by
 have aF:n<O.length:=(List.getElem?_eq_some_iff.1 hn).1;have xf:∀e s,O'[n]? ≠some (.nil e s):=λ e s he=>by have:=h.nil n aF e s he;rw[hn]at this;cases this
 by_cases hd:∃e' s' iv,O'[n]? =some (.live e' s' iv)
 ·obtain⟨e',s',iv,hx⟩:=hd;rcases h.obj n aF e' s' iv hx with⟨ys,hy,hle,hL⟩|⟨hy,_⟩
  ·rw[hn]at hy;cases hy;by_cases he:xs.length=iv.length
   ·exact .inl ⟨iv,hx,by omega,hL he⟩
   ·exact .inr ⟨lt_of_lt_of_le aF h.len,xf,λ e'' s'' awW oH=>by rw[hx]at oH;cases oH;omega⟩
  ·rw[hn]at hy;cases hy
 ·exact .inr ⟨lt_of_lt_of_le aF h.len,xf,λ e'' s'' awW oH=>(hd ⟨_,_,_,oH⟩).elim⟩
theorem R.mono{I I':du}{L L':Nat->Loc}{O O':List ad}(h:Ext I L O I' L' O'){a:AV}{x:Value}(hr:R I L O a x):R I' L' O' a x:=by
 induction hr with
 |top x=>exact .top x
 |v x hx=>exact .v x hx
 |aw=>exact .aw
 |v7 t x=>exact .v7 t x
 |mq a cap=>exact .mq a cap
 |sl xs bf off cap s bz h1 h2 h3 h4 _ ih=>exact .sl xs bf off cap s bz h1 h2 h3 (λ i x j c hi hj=>⟨h.kJ _ _ _ (h4 i x j c hi hj).1,(h4 i x j c hi hj).2⟩) ih
 |cj x f bf base bz h1 _ ih=>exact .cj x f bf base bz (λ j c hj=>⟨h.kJ _ _ _ (h1 j c hj).1,(h1 j c hj).2⟩) ih
 |cf n len e s xs hn hl=>
  rcases h.live hn hl with⟨ys,h1,h2,h3⟩|⟨h1,h2,h3⟩
  ·rw[←h3];exact .cf n len e s ys h1 h2
  ·exact .eQ n len _ h1 h2 h3 rfl
 |gu n e s hn=>
  have aF:n<O.length:=(List.getElem?_eq_some_iff.1 hn).1;by_cases hd:∃e' s',O'[n]? =some (.nil e' s')
  ·obtain⟨e',s',hx⟩:=hd;exact .gu n e' s' hx
  ·refine .eQ n 0 _ (lt_of_lt_of_le aF h.len) (λ e' s' he=>hd ⟨e',s',he⟩) (λ e' s' xs hx=> ?_) rfl;rcases h.obj n aF e' s' xs hx with⟨ys,hy,_⟩|⟨_,bn⟩
   ·rw[hn]at hy;cases hy
   ·exact List.length_pos_iff.2 bn
 |eQ n len x hn xA hs hx=>
  obtain⟨h1,h2,h3⟩:=h.asA hn xA hs;exact .eQ n len x h1 h2 h3 hx
 |dV n len i f e s xs hn hl=>
  rcases h.live hn hl with⟨ys,h1,h2,h3⟩|⟨h1,h2,h3⟩
  ·rw[←h3];exact .dV n len i f e s ys h1 h2
  ·exact .gv n len i f _ h1 h2 h3 rfl
 |gv n len i f x hn xA hs hx=>
  obtain⟨h1,h2,h3⟩:=h.asA hn xA hs;exact .gv n len i f x h1 h2 h3 hx
 |fn f aX vs h1 _ ih=>exact .fn f aX vs h1 ih
 |agg cs vs h1 _ ih=>exact .agg cs vs h1 ih
 |a9 cs vs h1 _ ih=>exact .a9 cs vs h1 ih
 |dW n a hn h1=>
  have aF:n<O.length:=(List.getElem?_eq_some_iff.1 hn).1;by_cases hd:∃b,O'[n]? =some (.own b)
  ·obtain⟨b,hb⟩:=hd;rw[←(h.own n aF b hb).2]at h1⊢;exact .dW n b hb h1
  ·refine .eR n _ (lt_of_lt_of_le aF h.len) (λ b hb=>hd ⟨b,hb⟩) (λ g hg=> ?_) h1;obtain⟨⟨c,hc,_⟩,_⟩:=h.cZ n aF g hg;rw[hn]at hc;cases hc
 |gW n g hn=>
  have aF:n<O.length:=(List.getElem?_eq_some_iff.1 hn).1;by_cases hd:∃b,O'[n]? =some (.cZ b)
  ·obtain⟨b,hb⟩:=hd;obtain⟨⟨c,hc,hk⟩,h2⟩:=h.cZ n aF b hb;rw[hn]at hc;cases hc;have:g.val (L n).bf=b.val (L' n).bf:=by unfold gJ.val;rw[hk,h2]
   rw[this];exact .gW n b hb
  ·refine .eR n _ (lt_of_lt_of_le aF h.len) (λ b hb=> ?_) (λ b hb=>hd ⟨b,hb⟩) (g.val_one _);obtain⟨⟨c,hc⟩,_⟩:=h.own n aF b hb;rw[hn]at hc;cases hc
 |eR n x hn cA hng h1=>
  refine .eR n x (lt_of_lt_of_le hn h.len) (λ b hb=> ?_) (λ g hg=> ?_) h1
  ·obtain⟨⟨c,hc⟩,_⟩:=h.own n hn b hb;exact cA c hc
  ·obtain⟨⟨c,hc,_⟩,_⟩:=h.cZ n hn g hg;exact hng c hc
def Mk(m:Nat×Nat)(n s:Nat):Prop:=m=(0,0)∨(m=(n,n+1)/\s=1)
def acw(I:du)(L:Nat->Loc)(O:List ad)(w:World)(l:Loc)(e s:Nat)(xs:List AV):Prop:=
 ∃c:Array Value,(∃m,w.heap[l.bf]? =some (.cells c e m)/\Mk m c.size s)/\c.size=l.cap*s/\xs.length<=l.cap/\l.cap<=maxLen/\0<s/\
  ∀(i:Nat) x,xs[i]? =some x->x.cells.length=s/\∀(j:Nat) a,x.cells[j]? =some a->∃y,c[i*s+j]? =some y/\y.oneCell'=true/\R I L O a y
def kX(w:World)(b:Nat):Option Nat:=
 match w.heap[b]? with
 |some (.cells c _ _)=>some c.size
 |_=>none
theorem kL{w:World}{b o:Nat}{x:Value}(h:w.cell? ⟨b,o,none⟩=some x):b<w.heap.size:=by
 unfold World.cell? at h
 split at h
 ·rename_i c e f hh;exact(Array.getElem?_eq_some_iff.1 hh).1
 ·cases h
inductive OT(w:World):AV->Value->(Nat->Prop)->Prop
 |v (x:Value):x.oneCell'=true->OT w (.v x) x λ _=>False
 |aw:OT w .aw (.slice none 0 0) λ _=>False
 |mq (a:Option Addr) (cap:Nat):OT w (.sl []) (.slice a 0 cap) λ _=>False
 |sl (xs:List AV) (bf cap s e:Nat) (c:Array Value) (bz:Nat->Nat->Value) (S:Nat->Nat->Nat->Prop) (m:Nat×Nat):
  w.heap[bf]? =some (.cells c e m)->Mk m c.size s->c.size=cap*s->xs.length<=cap->cap<=maxLen->0<s->xs≠[]->
  (∀(i:Nat) (x:AV),xs[i]? =some x->x.cells.length=s)->
  (∀(i:Nat) (x:AV) (j:Nat) (a:AV),xs[i]? =some x->x.cells[j]? =some a->c[i*s+j]? =some (bz i j)/\(bz i j).oneCell'=true)->
  (∀(i:Nat) (x:AV) (j:Nat) (a:AV),xs[i]? =some x->x.cells[j]? =some a->OT w a (bz i j) (S i j))->
  (∀i j b,S i j b->∃x a,xs[i]? =some x/\x.cells[j]? =some a)->(∀i j,¬S i j bf)->(∀i j i' j' b,S i j b->S i' j' b->i=i'/\j=j')->
  OT w (.sl xs) (.slice (some ⟨bf,0,none⟩) xs.length cap) λ b=>b=bf∨∃i j,S i j b
theorem OT.xy{w:World}{a:AV}{x:Value}{S:Nat->Prop}(h:OT w a x S):x.oneCell'=true:=by
 cases h<;>first|rfl|assumption
theorem OT.block{w:World}{a:AV}{x:Value}{S:Nat->Prop}(h:OT w a x S):∀b,S b->b<w.heap.size/\∃v,w.cell? ⟨b,0,none⟩=some v:=by
 induction h with
 |v=>intro b h;exact h.elim
 |aw=>intro b h;exact h.elim
 |mq=>intro b h;exact h.elim
 |sl xs bf cap s e c bz S m h1 hmk h2 h3 h4 h5 h6 h7 h8 h9 h10 h11 h12 ih=>
  rintro b (rfl|⟨i,j,hs⟩)
  ·refine⟨(Array.getElem?_eq_some_iff.1 h1).1,?_⟩
   have hp:0<c.size:=by
    rw[h2];exact Nat.mul_pos (by have:=List.length_pos_iff.2 h6;omega) h5
   exact⟨c[0],by unfold World.cell?;simp[h1,hp]⟩
  ·obtain⟨x,a,hx,ha⟩:=h10 i j b hs;exact ih i x j a hx ha b hs
theorem OT.congr{w w':World}{a:AV}{x:Value}{S:Nat->Prop}(h:OT w a x S):(∀b,S b->w'.heap[b]? =w.heap[b]?)->OT w' a x S:=by
 induction h with
 |v x h=>intro _;exact .v x h
 |aw=>intro _;exact .aw
 |mq a cap=>intro _;exact .mq a cap
 |sl xs bf cap s e c bz S m h1 hmk h2 h3 h4 h5 h6 h7 h8 h9 h10 h11 h12 ih=>
  intro hw;exact .sl xs bf cap s e c bz S m ((hw bf (.inl rfl)).trans h1) hmk h2 h3 h4 h5 h6 h7 h8 (λ i x j a hx ha=>ih i x j a hx ha λ b hb=>hw b (.inr ⟨i,j,hb⟩)) h10 h11 h12
theorem OT.read{w:World}{a:AV}{x:Value}{S:Nat->Prop}(h:OT w a x S):∀(I:du) (L:Nat->Loc) (O:List ad),(∀b o v,S b->w.cell? ⟨b,o,none⟩=some v->I b o=some v)->R I L O a x:=by
 induction h with
 |v x h=>intro I L O _;exact .v x h
 |aw=>intro I L O _;exact .aw
 |mq a cap=>intro I L O _;exact .mq a cap
 |sl xs bf cap s e c bz S m h1 hmk h2 h3 h4 h5 h6 h7 h8 h9 h10 h11 h12 ih=>
  intro I L O hI;refine .sl xs bf 0 cap s bz h3 h6 h7 (λ i x j a hx ha=>⟨hI bf _ _ (.inl rfl) ?_,(h8 i x j a hx ha).2⟩) λ i x j a hx ha=>ih i x j a hx ha I L O λ b o v hb hv=>hI b o v (.inr ⟨i,j,hb⟩) hv
  unfold World.cell?;simp[h1,(h8 i x j a hx ha).1]
structure Own(I:du)(L:Nat->Loc)(O:List ad)(w:World):Prop where
 tree:∀(n:Nat) (a:AV),O[n]? =some (.own a)->∀L' O',R (L n).mem L' O' a (L n).val
 cell:∀(n:Nat) (a:AV),O[n]? =some (.own a)->∀b o v,(L n).mem b o=some v->w.cell? ⟨b,o,none⟩=some v
 kJ:∀(n:Nat) (a:AV),O[n]? =some (.own a)->∀b o v,(L n).mem b o=some v->∀o',I b o'=none
 live:∀(n:Nat) (a:AV),O[n]? =some (.own a)->∀b o v,(L n).mem b o=some v->∀(m e s:Nat) (xs:List AV),O[m]? =some (.live e s xs)->(L m).bf≠b
 sep:∀(n m:Nat) (a c:AV),O[n]? =some (.own a)->O[m]? =some (.own c)->∀b o o' v v',(L n).mem b o=some v->(L m).mem b o'=some v'->n=m
 deep:∀(n:Nat) (a:AV),O[n]? =some (.own a)->∃S:Nat->Prop,OT w a (L n).val S/\∀b,S b↔∃o v,(L n).mem b o=some v
def LV(L:Nat->Loc)(O:List ad)(b:Nat):Prop:=∃(n:Nat) (e s:Nat) (xs:List AV),O[n]? =some (.live e s xs)/\(L n).bf=b
def OB(L:Nat->Loc)(O:List ad)(b:Nat):Prop:=∃(n:Nat) (a:AV) (o:Nat) (v:Value),O[n]? =some (.own a)/\(L n).mem b o=some v
theorem Own.no{I:du}{L:Nat->Loc}{O:List ad}{w:World}(h:∀(n:Nat) (a:AV),O[n]? ≠some (.own a)):Own I L O w:=
 ⟨λ n a hn=>(h n a hn).elim,λ n a hn=>(h n a hn).elim,λ n a hn=>(h n a hn).elim,λ n a hn=>(h n a hn).elim,λ n _ a _ hn=>(h n a hn).elim,λ n a hn=>(h n a hn).elim⟩
theorem Own.asz{I I':du}{L L':Nat->Loc}{O O':List ad}{w w':World}(h:Own I L O w)
  (hO:∀(n:Nat) (a:AV),O'[n]? =some (.own a)->O[n]? =some (.own a)/\L' n=L n)
  (hI:∀b o v,I' b o=some v->(∃o v,I b o=some v)∨LV L O b∨w.heap.size<=b∨∃(n:Nat) (a:AV) (o:Nat) (v:Value),O[n]? =some (.own a)/\(L n).mem b o=some v/\∀c,O'[n]? ≠some (.own c))
  (hL:∀(m e s:Nat) (xs:List AV),O'[m]? =some (.live e s xs)->LV L O (L' m).bf∨w.heap.size<=(L' m).bf)
  (hw:∀b,b<w.heap.size->¬LV L O b->w'.heap[b]? =w.heap[b]?):Own I' L' O' w':=by
 have key:∀(n:Nat) (a:AV),O'[n]? =some (.own a)->∀b o v,(L' n).mem b o=some v->(L n).mem b o=some v/\b<w.heap.size/\¬LV L O b:=λ n a hn b o v hv=>by
  obtain⟨h1,h2⟩:=hO n a hn;rw[h2]at hv;exact⟨hv,kL (h.cell n a h1 b o v hv),λ ⟨m,e,s,xs,hm,hb⟩=>h.live n a h1 b o v hv m e s xs hm hb⟩
 refine⟨λ n a hn=> ?_,λ n a hn b o v hv=> ?_,λ n a hn b o v hv o'=> ?_,λ n a hn b o v hv m e s xs hm hb=> ?_,λ n m a c hn hm b o o' v v' hv km=> ?_,λ n a hn=> ?_⟩
 ·obtain⟨h1,h2⟩:=hO n a hn;rw[h2];exact h.tree n a h1
 ·obtain⟨h0,h1,h2⟩:=key n a hn b o v hv;have:=h.cell n a (hO n a hn).1 b o v h0;rw[←this];exact World.cell?_of_block (a:=⟨b,o,none⟩) (hw b h1 h2)
 ·obtain⟨h0,h1,h2⟩:=key n a hn b o v hv;cases hq:I' b o' with
  |none=>rfl
  |some u=>
   rcases hI b o' u hq with⟨o2,v2,h3⟩|h3|h3|⟨m,c,o2,v2,h3,h4,h5⟩
   ·rw[h.kJ n a (hO n a hn).1 b o v h0 o2]at h3;cases h3
   ·exact(h2 h3).elim
   ·omega
   ·have:=h.sep n m a c (hO n a hn).1 h3 b o o2 v v2 h0 h4;subst this;exact(h5 a hn).elim
 ·obtain⟨h0,h1,h2⟩:=key n a hn b o v hv;rcases hL m e s xs hm with h3|h3
  ·rw[hb]at h3;exact h2 h3
  ·omega
 ·exact h.sep n m a c (hO n a hn).1 (hO m c hm).1 b o o' v v' (key n a hn b o v hv).1 (key m c hm b o' v' km).1
 ·obtain⟨S,h1,h2⟩:=h.deep n a (hO n a hn).1;rw[(hO n a hn).2];refine⟨S,h1.congr λ b hb=> ?_,h2⟩;obtain⟨o,v,hv⟩:=(h2 b).1 hb;obtain⟨_,h3,h4⟩:=key n a hn b o v (by rw[(hO n a hn).2];exact hv);exact hw b h3 h4
theorem Own.step{I I':du}{L L':Nat->Loc}{O O':List ad}{w w':World}(h:Own I L O w)
  (hO:∀(n:Nat) (a:AV),O'[n]? =some (.own a)->O[n]? =some (.own a)/\L' n=L n)
  (hI:∀b o v,I' b o=some v->(∃o v,I b o=some v)∨LV L O b∨w.heap.size<=b)
  (hL:∀(m e s:Nat) (xs:List AV),O'[m]? =some (.live e s xs)->LV L O (L' m).bf∨w.heap.size<=(L' m).bf)
  (hw:∀b,b<w.heap.size->¬LV L O b->w'.heap[b]? =w.heap[b]?):Own I' L' O' w':=
 h.asz hO (λ b o v hv=>by
   rcases hI b o v hv with h1|h1|h1
   ·exact .inl h1
   ·exact .inr (.inl h1)
   ·exact .inr (.inr (.inl h1))) hL hw
theorem Own.same{I I':du}{L L':Nat->Loc}{O O':List ad}{w w':World}(h:Own I L O w)
  (hO:∀(n:Nat) (a:AV),O'[n]? =some (.own a)->O[n]? =some (.own a)/\L' n=L n)
  (hI:∀b o v,I' b o=some v->(∃o v,I b o=some v)∨LV L O b∨w.heap.size<=b)
  (hL:∀(m e s:Nat) (xs:List AV),O'[m]? =some (.live e s xs)->LV L O (L' m).bf∨w.heap.size<=(L' m).bf) (hw:w'=w):Own I' L' O' w':=
 h.step hO hI hL λ _ _ _=>by rw[hw]
theorem Own.ar{I:du}{L:Nat->Loc}{O:List ad}{w w':World}(h:Own I L O w)(hw:∀b,b<w.heap.size->¬LV L O b->w'.heap[b]? =w.heap[b]?):Own I L O w':=
 h.step (λ _ _ h=>⟨h,rfl⟩) (λ _ o v hv=> .inl ⟨o,v,hv⟩) (λ m e s xs h=> .inl ⟨m,e,s,xs,h,rfl⟩) hw
def sf(I:du)(L:Nat->Loc)(O:List ad)(w:World)(l:Loc):gJ->Prop
 | .mp es=>∃(en:Array MapEntry) (clock:Nat),w.heap[l.bf]? =some (.map en clock)/\en.size=es.length/\∀(i:Nat) k v,es[i]? =some (k,v)->∃e,en[i]? =some e/\R I L O k e.key/\R I L O v e.val
 | .it s pos=>w.heap[l.bf]? =some (.stringIter s pos)
def xJ(w:World)(b:Nat):Prop:=b<w.heap.size/\∀c e z,w.heap[b]? ≠some (.cells c e z)
theorem sf.no{I:du}{L:Nat->Loc}{O:List ad}{w:World}{l:Loc}{g:gJ}(h:sf I L O w l g):xJ w l.bf:=by
 cases g with
 |mp es=>
  obtain⟨en,c,h1,_⟩:=h;exact⟨(Array.getElem?_eq_some_iff.1 h1).1,λ c e z hc=>by rw[h1]at hc;cases hc⟩
 |it s p=>exact⟨(Array.getElem?_eq_some_iff.1 h).1,λ c e z hc=>by rw[show w.heap[l.bf]? =_ from h]at hc;cases hc⟩
theorem xJ.cell{w:World}{b o:Nat}(h:xJ w b):w.cell? ⟨b,o,none⟩=none:=by
 unfold World.cell?
 split
 ·rename_i c e f hh;exact(h.2 _ _ _ hh).elim
 ·rfl
structure Gh(I:du)(L:Nat->Loc)(O:List ad)(w:World):Prop where
 ok:∀(n:Nat) (g:gJ),O[n]? =some (.cZ g)->sf I L O w (L n) g
 sep:∀(n m:Nat) (g h:gJ),O[n]? =some (.cZ g)->O[m]? =some (.cZ h)->(L n).bf=(L m).bf->n=m
def GB(L:Nat->Loc)(O:List ad)(b:Nat):Prop:=∃(n:Nat) (g:gJ),O[n]? =some (.cZ g)/\(L n).bf=b
theorem Gh.no{I:du}{L:Nat->Loc}{O:List ad}{w:World}(h:∀(n:Nat) (g:gJ),O[n]? ≠some (.cZ g)):Gh I L O w:=
 ⟨λ n a hn=>(h n a hn).elim,λ n _ a _ hn=>(h n a hn).elim⟩
theorem sf.mono{I I':du}{L L':Nat->Loc}{O O':List ad}{w w':World}{l l':Loc}{g:gJ}(h:sf I L O w l g)(hl:l'.bf=l.bf)(hR:∀a x,R I L O a x->R I' L' O' a x)(hw:w'.heap[l.bf]? =w.heap[l.bf]?):sf I' L' O' w' l' g:=by
 cases g with
 |mp es=>
  obtain⟨en,c,h1,h2,h3⟩:=h;refine⟨en,c,by rw[hl,hw];exact h1,h2,λ i k v hi=> ?_⟩;obtain⟨e,h4,h5,h6⟩:=h3 i k v hi;exact⟨e,h4,hR _ _ h5,hR _ _ h6⟩
 |it s p=>
  have h0:w.heap[l.bf]? =some (.stringIter s p):=h
  show w'.heap[l'.bf]? =some (.stringIter s p);rw[hl,hw];exact h0
theorem Gh.step{I I':du}{L L':Nat->Loc}{O O':List ad}{w w':World}(h:Gh I L O w)
  (hO:∀(n:Nat) (g:gJ),O'[n]? =some (.cZ g)->O[n]? =some (.cZ g)/\(L' n).bf=(L n).bf)
  (hR:∀a x,R I L O a x->R I' L' O' a x)
  (hw:∀b,xJ w b->w'.heap[b]? =w.heap[b]?):Gh I' L' O' w':=by
 refine⟨λ n g hn=> ?_,λ n m g k hn hm hb=> ?_⟩
 ·obtain⟨h1,h2⟩:=hO n g hn;exact(h.ok n g h1).mono h2 hR (hw _ (h.ok n g h1).no)
 ·obtain⟨h1,h2⟩:=hO n g hn;obtain⟨h3,h4⟩:=hO m k hm;exact h.sep n m g k h1 h3 (by rw[←h2,←h4];exact hb)
structure Inv(I:du)(L:Nat->Loc)(O:List ad)(w:World):Prop where
 kJ:∀b o x,I b o=some x->w.cell? ⟨b,o,none⟩=some x
 obj:∀(n:Nat) e s xs,O[n]? =some (.live e s xs)->acw I L O w (L n) e s xs
 sep:∀(n m:Nat) e s xs e' s' ys,O[n]? =some (.live e s xs)->O[m]? =some (.live e' s' ys)->(L n).bf=(L m).bf->n=m
 dS:∀(n:Nat) e s xs o,O[n]? =some (.live e s xs)->I (L n).bf o=none
 fix:∀p∈pb,I p.1 p.2.1=some p.2.2
 bf:∀q∈my,kX w q.1=some q.2/\∃v,I q.1 0=some v/\afQ q.1 v=true
 ow:Own I L O w
 gh:Gh I L O w
def LB(L:Nat->Loc)(O:List ad)(b:Nat):Prop:=LV L O b∨OB L O b∨GB L O b
theorem aav{L:Nat->Loc}{b:Nat}:¬LB L [] b:=by
 rintro(⟨n,e,s,xs,h,_⟩|⟨n,a,o,v,h,_⟩|⟨n,g,h,_⟩)<;>simp at h
structure Frm(own:Nat->Prop)(w w':World):Prop where
 os:w'.os=w.os
 tape:w'.tape=w.tape
 output:w'.output=w.output
 size:w.heap.size<=w'.heap.size
 block:∀b,b<w.heap.size->¬own b->w'.heap[b]? =w.heap[b]?
theorem Frm.refl(own:Nat->Prop)(w:World):Frm own w w:=⟨rfl,rfl,rfl,le_refl _,λ _ _ _=>rfl⟩
theorem Frm.trans{own axD:Nat->Prop}{w w' w'':World}(h:Frm own w w')(k:Frm axD w' w'')(ho:∀b,axD b->own b∨w.heap.size<=b):Frm own w w'':=
 ⟨k.os.trans h.os,k.tape.trans h.tape,k.output.trans h.output,le_trans h.size k.size,λ b hb hn=>
   (k.block b (lt_of_lt_of_le hb h.size) (λ hc=>by rcases ho b hc with h1|h1<;>first|exact hn h1|omega)).trans (h.block b hb hn)⟩
theorem aiC{w:World}{b n:Nat}(h:kX w b=some n):b<w.heap.size:=by
 unfold kX at h
 split at h
 ·rename_i hq;exact(Array.getElem?_eq_some_iff.1 hq).1
 ·cases h
theorem aiD{w w':World}{b:Nat}(h:w'.heap[b]? =w.heap[b]?):kX w' b=kX w b:=by
 unfold kX;rw[h]
theorem Inv.uj{I I':du}{L:Nat->Loc}{O:List ad}{w w':World}(hi:Inv I L O w)(hw:∀b,b<w.heap.size->¬LB L O b->w'.heap[b]? =w.heap[b]?)(hI:∀b o x,I b o=some x->I' b o=some x):
  ∀q∈my,kX w' q.1=some q.2/\∃v,I' q.1 0=some v/\afQ q.1 v=true:=by
 intro q hq;obtain⟨h1,v,h2,h3⟩:=hi.bf q hq;refine⟨?_,v,hI _ _ _ h2,h3⟩;rw[aiD (hw q.1 (aiC h1) ?_)]
 ·exact h1
 ·rintro(⟨n,e,s,xs,hn,hb⟩|⟨n,a,o,u,hn,hb⟩|⟨n,g,hn,hb⟩)
  rotate_right
  ·have h4:=(hi.gh.ok n g hn).no.cell (o:=0);rw[hb,hi.kJ _ _ _ h2]at h4;cases h4
  ·have:=hi.dS n e s xs 0 hn;rw[hb,h2]at this;cases this
  ·have:=hi.ow.kJ n a hn q.1 o u hb 0;rw[h2]at this;cases this
theorem Inv.xI{I I':du}{L:Nat->Loc}{O:List ad}{w:World}(hi:Inv I L O w)(hI:∀b o x,I b o=some x->I' b o=some x):
 ∀q∈my,kX w q.1=some q.2/\∃v,I' q.1 0=some v/\afQ q.1 v=true:=hi.uj (λ _ _ _=>rfl) hI
theorem Frm.below{w w':World}(h:Frm (λ _=>False) w w'):RowKit.Below w.heap.size w w':=
 ⟨h.os,h.tape,h.output,h.size,λ k hk=>h.block k hk (λ x=>x)⟩
def RL(I:du)(L:Nat->Loc)(O:List ad)(as:List AV)(vs:Array Value):Prop:=
 as.length=vs.size/\∀(i:Nat) a x,as[i]? =some a->vs[i]? =some x->R I L O a x
structure Good(I:du)(L:Nat->Loc)(O:List ad)(w:World)(I':du)(L':Nat->Loc)(O':List ad)(w':World):Prop where
 inv:Inv I' L' O' w'
 ext:Ext I L O I' L' O'
 pO:Frm (LB L O) w w'
 lb:∀b,LB L' O' b->LB L O b∨w.heap.size<=b
 iP:∀b o x,I' b o=some x->I b o=some x∨LB L O b∨w.heap.size<=b
def aiM(P:Program)(f:FuncId):Prop:=∃fn,P.funcs[f]? =some fn/\fn.body.isSome=true/\(fn.name== "runtime.NumGoroutine")=false
def fE(P:Program)(f:FuncId)(args:List AV)(O:List ad)(res:AV)(O':List ad):Prop:=
 aiM P f/\∀I L w vs,Inv I L O w->RL I L O args vs->Calls P f vs w λ e w'=>∃y I' L',e= .returned y/\R I' L' O' res y/\Good I L O w I' L' O' w'
def a7(P:Program)(f:FuncId)(args:List AV)(res:AV):Prop:=fE P f args [] res []
end Go.Ab
namespace Go.Ab
theorem Mk.free{m:Nat×Nat}{n s j:Nat}(h:Mk m n s)(hj:j<n):(decide (m.1<=j)&&decide (j<m.2))=false:=by
 rcases h with rfl|⟨rfl,_⟩<;>simp<;>omega
theorem Mk.size{m:Nat×Nat}{n s k:Nat}(h:Mk m n s)(he:k=n):Mk m k s:=he▸h
theorem iA{P:Program}(g o s:Nat)(t:TypeId)(m:Nat×Nat):∀(vs:List Value) (i:Nat) (cur:Array Value) (w:World),w.heap[g]? =some (.cells cur t m)->Mk m cur.size s->o+i+vs.length<=cur.size->(∀v∈vs,v.oneCell'=true)->
  (storeCells ⟨g,o,none⟩ vs i).run P w= .ok () (w.setRow g (cur.toList.take (o+i)++vs++cur.toList.drop (o+i+vs.length)).toArray)
 | [],i,cur,w,hg,_,_,_=>by
   simp only[storeCells,append_nil,List.length_nil,add_zero,List.take_append_drop,Array.toArray_toList];rw[setRow_self w g cur t m hg]
   rfl
 |v::rest,i,cur,w,hg,hm,hl,h1=>by
  have hl':o+i+(rest.length+1)<=cur.size:=by simpa using hl
  have hi:o+i<cur.size:=by omega
  have arL:(⟨g,o,none⟩:Addr).add i=⟨g,o+i,none⟩:=by unfold Addr.add;split<;>simp_all
  have aCd:w.frozen? ⟨g,o+i,none⟩=false:=by
   obtain⟨lo,up⟩:=m;have:=hm.free hi;simpa [World.frozen?,hg]using this
  have oJ:(store ((⟨g,o,none⟩:Addr).add i) v).run P w= .ok () (w.setRow g (cur.setIfInBounds (o+i) v)):=by
   rw[arL,run_store P w _ v _ (h1 v (by simp)),show w.cell? ⟨g,o+i,none⟩=some cur[o+i] by simp[World.cell?,hg,hi]];simp[aCd,setCell_eq_setRow w g (o+i) cur t m v hg]
  have ih:=iA (P:=P) g o s t m rest (i+1) (cur.setIfInBounds (o+i) v) (w.setRow g (cur.setIfInBounds (o+i) v)) (setRow_heap w g cur _ t _ hg) (hm.size (by simp)) (by simp;omega) (λ x hx=>h1 x (by simp[hx]));simp only[storeCells,Sem.run_bind,oJ,Result.andThen_ok,ih,setRow_setRow];congr 3
  have aCm:∀(c:List Value),o+i+(rest.length+1)<=c.length->(c.set (o+i) v).take (o+(i+1))++rest++(c.set (o+i) v).drop (o+(i+1)+rest.length)=c.take (o+i)++v::rest++c.drop (o+i+(rest.length+1)):=by
   intro c hc
   have e1:(c.set (o+i) v).take (o+(i+1))=c.take (o+i)++ [v]:=by
    apply ext_getElem?;intro k;by_cases hk:k<o+i
    ·rw[getElem?_take,if_pos (by omega),getElem?_set_ne (by omega),getElem?_append_left (by simp;omega),getElem?_take,if_pos hk]
    ·by_cases hk2:k=o+i
     ·subst hk2;rw[getElem?_take,if_pos (by omega),getElem?_set_self (by omega),getElem?_append_right (by simp;omega),length_take];simp[min_eq_left (show o+i<=c.length by omega)]
     ·rw[getElem?_take,if_neg (by omega),getElem?_eq_none (by simp;omega)]
   have e2:(c.set (o+i) v).drop (o+(i+1)+rest.length)=c.drop (o+i+(rest.length+1)):=by
    apply ext_getElem?;intro k;rw[getElem?_drop,getElem?_drop,getElem?_set_ne (by omega)];congr 1;omega
   rw[e1,e2];simp
  have:=aCm cur.toList (by simpa using hl');simpa [Array.toList_setIfInBounds]using this
theorem tl{P:Program}(w:World)(t ty e:TypeId)(i:TypeInfo)(ht:P.underlying t=some (.slice e))(hi:P.info? e=some i){m0:Nat×Nat}{s:Nat}
  (g jP rC:Nat) (cur:Array Value) (hg:w.heap[g]? =some (.cells cur e m0)) (hmk:Mk m0 cur.size s)
  (a:Addr) (m c:Nat) (news:List Value) (hl:news.length=m*i.size) (ayJ:∀j u,news[j]? =some u->w.cell? (a.add j)=some u) (h1:∀u∈news,u.oneCell'=true)
  (lu:jP+m<=rC) (ko:jP*i.size+news.length<=cur.size):
  (Builtin.append_ #[t,t] ty #[.slice (some ⟨g,0,none⟩) jP rC,.slice (some a) m c]).run P w=
   .ok (.slice (some ⟨g,0,none⟩) (jP+m) rC) (w.setRow g (cur.toList.take (jP*i.size)++news++cur.toList.drop (jP*i.size+news.length)).toArray):=by
 have hf:=run_firstCells_some (P:=P) w i.size m a m c news hl ayJ;have oJ:=iA (P:=P) g (jP*i.size) s e m0 news 0 cur w hg hmk (by simpa using ko) h1;simp only[add_zero]at oJ;simp[Builtin.append_,run_underlying ht,sizeOf,typeInfo,hi,Builtin.lenOf,lu,hf,Addr.add_lit,oJ]
end Go.Ab
namespace Go.Ab
mutual
def AV.bP(s:Nat->Nat):AV->AV
 | .top=> .top
 | .v x=> .v x
 | .aw=> .aw
 | .v7=> .v7
 | .sl xs=> .sl (AV.sy s xs)
 | .cj x f=> .cj (x.bP s) f
 | .row n l=> .row (s n) l
 | .ptr n l i f=> .ptr (s n) l i f
 | .fn f cs=> .fn f (AV.sy s cs)
 | .agg cs=> .agg (AV.sy s cs)
 | .a9 cs=> .a9 (AV.sy s cs)
 | .own n=> .own (s n)
def AV.sy(s:Nat->Nat):List AV->List AV
 | []=>[]
 |x::xs=>x.bP s::AV.sy s xs
end
def gJ.bP(s:Nat->Nat):gJ->gJ
 | .mp es=> .mp (es.map λ p=>(p.1.bP s,p.2.bP s))
 | .it a b=> .it a b
theorem gJ.yB(s:Nat->Nat)(g:gJ):(g.bP s).mQ=g.mQ:=by cases g<;>rfl
def ad.bP(s:Nat->Nat):ad->ad
 | .cZ g=> .cZ (g.bP s)
 | .dead=> .dead
 | .nil e s=> .nil e s
 | .live e k xs=> .live e k (xs.map (AV.bP s))
 | .own a=> .own a
inductive D where
 |x (i:Nat)
 |c (a:AV)
 |cell (i j:Nat)
 |ext (i j:Nat)
 |sl (l:D)
 |agg (l:List D)
 |fn (f:FuncId) (l:List D)
 |ip (d:D) (f:Nat)
instance:Inhabited D:=⟨.x 0⟩
inductive SV where
 |d (x:D)
 |row (n:Nat) (l:D)
 |ptr (n f:Nat)
 |rp (n:Nat) (l i:D) (f:Nat)
 |ip (x:D) (f:Nat)
 |agg (cs:List SV)
 |a9 (cs:List SV)
 |top
instance:Inhabited SV:=⟨.top⟩
inductive SO where
 |dead
 |box (e:Nat) (cs:List SV)
 |row (nl:Bool) (e s:Nat) (l:D)
instance:Inhabited SO:=⟨.dead⟩
structure hD where
 n:Nat
 args:List SV
 ai:List SO
 m:Nat
 res:SV
 cz:List SO
 ar:List Nat
end Go.Ab
namespace Go.Ab
inductive aI where
 |t (n:Nat)
 |c (a:AV)
abbrev Env:=Nat->AV
def Env.set(e:Env)(t:Nat)(a:AV):Env:=λ k=>if k=t then a else e k
def aI.ev(e:Env):aI->AV
 | .t n=>e n
 | .c a=>a
def dI(n:Option Nat)(x:AV)(f:Nat):AV:=
 match n with
 |none=>x.cells.getD f .top
 |some m=>if f=0/\x.isAgg=true/\x.cells.length=m then x else .agg ((x.cells.drop f).take m)
def rH(x:AV)(f:Nat)(y:AV):AV:=
 if f=0/\y.cells.length=x.cells.length then y else .agg (x.cells.take f++y.cells++x.cells.drop (f+y.cells.length))
def AV.storable(x:AV):Bool:=x.cells.all AV.cg
inductive PU where
 |b2s
 |u5 (neg:Bool)
 |o0 (neg:Bool)
 |u6 (neg:Bool)
 |min
 |max
 |ej
def u8s:List AV->Option (List UInt8)
 | []=>some []
 | .v (.int .u8 n)::r=>(u8s r).map (UInt8.ofNat n.toNat::·)
 |_=>none
def xv(o:PU)(xs:List AV):Option AV:=
 match o,xs with
 | .b2s,[.sl ys]=>(u8s ys).map λ l=> .v (.string ⟨l.toArray⟩)
 | .b2s,[.aw]=>some (.v (.string ⟨#[]⟩))
 | .ej,[.aw]=>some (.v (.int .i64 0))
 | .u5 neg,[.aw]=>some (.v (.bool (neg !=true)))
 | .u5 neg,[.sl (_::_)]=>some (.v (.bool (neg !=false)))
 | .o0 neg,[.v (.pointer none)]=>some (.v (.bool (neg !=true)))
 | .o0 neg,[.cj _ _]=>some (.v (.bool (neg !=false)))
 | .u6 neg,[.v .nilIface]=>some (.v (.bool (neg !=true)))
 | .u6 neg,[.v7]=>some (.v (.bool (neg !=false)))
 | .min,[.v (.int k a),.v (.int k' b)]=>if k=k' then some (.v (.int k (if b<a then b else a)))else none
 | .max,[.v (.int k a),.v (.int k' b)]=>if k=k' then some (.v (.int k (if a<b then b else a)))else none
 |_,_=>none
def puK(o:PU)(xs:List AV)(K:AV->Prop):Prop:=
 match xv o xs with
 |some v=>K v
 |none=>False
def ahO:Value->Value->Bool
 | .int j a,.int k b=>decide (j=k)&&decide (a=b)
 | .string a,.string b=>decide (a=b)
 | .bool a,.bool b=>decide (a=b)
 |_,_=>false
def nB(k:Value):List (AV×AV)->Nat->Option (Nat×AV)
 | [],_=>none
 |(.v k',v)::es,i=>if ahO k k'=true then some (i,v)else nB k es (i+1)
 |_::es,i=>nB k es (i+1)
inductive KD where
 |int (k:IntKind)
 |str
 |bool
def KD.ok:KD->Value->Bool
 | .int k,.int j _=>decide (j=k)
 | .str,.string _=>true
 | .bool,.bool _=>true
 |_,_=>false
def KD.all(d:KD)(es:List (AV×AV)):Bool:=es.all λ p=>match p.1 with
 | .v k=>d.ok k
 |_=>false
def KD.of:TypeDesc->Option KD
 | .int k=>some (.int k)
 | .string=>some .str
 | .bool=>some .bool
 |_=>none
def pK(k:Value)(v:AV)(es:List (AV×AV)):List (AV×AV):=match nB k es 0 with
 |none=>es++ [(.v k,v)]
 |some (i,_)=>es.set i (.v k,v)
def ei(O:List ad)(i:Nat):Bool:=match O[i]? with
 |some (.live _ s [_])=>s !=1
 |_=>false
def jc(O:List ad)(es:List (AV×AV)):Bool:=es.all λ p=>match p.1 with
 | .ptr i 1 0 0=>ei O i
 |_=>false
def ic(j:Nat):List (AV×AV)->Nat->Option (Nat×AV)
 | [],_=>none
 |(.ptr k _ _ _,v)::es,i=>if j=k then some (i,v)else ic j es (i+1)
 |_::es,i=>ic j es (i+1)
def kE(j:Nat)(v:AV)(es:List (AV×AV)):List (AV×AV):=match ic j es 0 with
 |none=>es++ [(.ptr j 1 0 0,v)]
 |some (i,_)=>es.set i (.ptr j 1 0 0,v)
inductive ez where
 |yZ
 |akJ (ok:Bool) (d:KD) (z:AV) (m k:aI)
 |pK (d:KD) (m k v:aI)
 |aa2 (ok:Bool) (z:AV) (m k:aI)
 |kE (m k v:aI)
 |abx (x:aI)
 |abA (x:aI)
 |s2b (e:Nat) (x:aI)
 |y6 (e:Nat) (x:aI)
 |wJ (neg:Bool) (x:aI)
 |peq (neg:Bool) (x y:aI)
 |stuck
 |iR (e s len:Nat) (z:AV) (parts:List (Nat×aI))
 |pu (o:PU) (args:List aI)
 |kN (e s bytes:Nat) (x y:aI)
 |aA (x:aI)
 |pick (c a b:aI)
 |alloc (e s:Nat) (z:AV)
 |box (e s:Nat) (x:aI)
 |build (z:List AV) (parts:List (Nat×Nat×aI))
 |buildSlice (e s len:Nat) (z:AV) (parts:List (Nat×aI))
 |load (n:Option Nat) (x:aI)
 |store (m:Nat) (x y:aI)
 |bin (op:BinOp) (x y:aI)
 |beq (neg:Bool) (x y:aI)
 |un (op:UnOp) (x:aI)
 |j6 (k:IntKind) (x:aI)
 |aK (off:Nat) (x:aI)
 |zZ (off:Nat) (n:Option Nat) (x:aI)
 |bJ (s:Nat) (x i:aI)
 |wx (m s:Nat) (x i:aI)
 |lF (x i:aI)
 |fI (x:aI) (lo hi:Option aI)
 |cX (s:Nat) (x:aI) (lo hi:Option aI)
 |mk (e s bytes:Nat) (z:AV) (len cap:aI)
 |lg (x:aI)
 |bm (x:aI)
 |app (e s bytes:Nat) (x y:aI)
 |ext (x:aI) (i:Nat)
 |ca (x:aI)
 |sI (f:FuncId) (aX:List aI)
 |call (f:FuncId) (args:List aI)
 |ew (x:aI) (args:List aI)
 |nw (f:FuncId) (args:List aI)
 |jV (x:aI) (args:List aI)
 |lK (f:FuncId) (args:List aI)
 |iN (x:aI) (args:List aI)
 |mJ (f:FuncId) (args:List aI)
 |eW (nl:Bool) (e s:Nat) (f:FuncId) (args:List aI)
 |gG (k e s:Nat) (z:AV)
 |m9 (k e s:Nat) (x:aI)
 |mkF (e s bytes:Nat) (z:AV) (len cap:aI)
 |y4 (k e s bytes:Nat) (z:AV) (len cap:aI)
 |gF (k e s len:Nat) (z:AV) (parts:List (Nat×aI))
 |ad9 (e s bytes:Nat) (z:AV) (x n:aI)
 |cut (s:Nat) (x:aI) (lo hi:Option aI)
 |bk (gs:List hD) (f:FuncId) (args:List aI)
 |jU (gs:List hD) (f:FuncId) (args:List aI)
 |rR (rd:List Nat) (f:FuncId) (args:List aI)
 |rS (rd:List Nat) (f:FuncId) (args:List aI)
 |nq (kp:List Nat) (f:FuncId) (args:List aI)
def rE(op:BinOp)(k:IntKind)(a b:Int):Option Value:=
 match op with
 | .add=>some (.int k (k.wrap (a+b)))
 | .sub=>some (.int k (k.wrap (a- b)))
 | .mul=>some (.int k (k.wrap (a*b)))
 | .quo=>if b≠0 then some (.int k (k.wrap (a.tdiv b)))else none
 | .rem=>if b≠0 then some (.int k (a.tmod b))else none
 | .and=>some (.int k (k.wrap (BitVec.ofInt k.bits a&&&BitVec.ofInt k.bits b).toNat))
 | .or=>some (.int k (k.wrap (BitVec.ofInt k.bits a|||BitVec.ofInt k.bits b).toNat))
 | .xor=>some (.int k (k.wrap (BitVec.ofInt k.bits a^^^BitVec.ofInt k.bits b).toNat))
 | .eql=>some (.bool (a==b))
 | .neq=>some (.bool (a !=b))
 | .lss=>some (.bool (a<b))
 | .leq=>some (.bool (a<=b))
 | .gtr=>some (.bool (a>b))
 | .geq=>some (.bool (a≥b))
 |_=>none
def aiY(op:BinOp)(k:IntKind)(a b:Int):Option Value:=
 match op with
 | .shl=>if 0<=b then some (.int k (k.wrap (a*2^(min b.toNat k.bits))))else none
 | .shr=>if 0<=b then some (.int k (a.fdiv (2^(min b.toNat k.bits))))else none
 |_=>none
def abz(op:BinOp)(a b:ByteArray):Option Value:=
 match op with
 | .add=>if((a.size+b.size:Nat):Int)<=IntKind.i64.max then some (.string (a++b))else none
 | .eql=>some (.bool (a.toList==b.toList))
 | .neq=>some (.bool !(a.toList==b.toList))
 | .lss=>some (.bool (Op.bytesLess a.toList b.toList))
 | .leq=>some (.bool (Op.bytesLess a.toList b.toList||a.toList==b.toList))
 | .gtr=>some (.bool !(Op.bytesLess a.toList b.toList||a.toList==b.toList))
 | .geq=>some (.bool !(Op.bytesLess a.toList b.toList))
 |_=>none
def BinOp.eF:BinOp->Bool
 | .shl| .shr=>true
 |_=>false
def lC(op:BinOp)(x y:Value):Option Value:=
 match x,y with
 | .int k a,.int k' b=>if BinOp.eF op=true then aiY op k a b else if k=k' then rE op k a b else none
 | .string a,.string b=>abz op a b
 |_,_=>none
def sun(op:UnOp)(x:Value):Option Value:=
 match op,x with
 | .neg,.int k n=>some (.int k (k.wrap (0- n)))
 | .not,.bool b=>some (.bool !b)
 |_,_=>none
def jy(e:Env)(z:List AV):List (Nat×Nat×aI)->(AV->Prop)->Prop
 | [],K=>K (.agg z)
 |(off,size,x)::r,K=>(x.ev e).cells.length=size/\((x.ev e).cg||(x.ev e).isAgg)=true/\off+size<=z.length/\
  jy e (z.take off++(x.ev e).cells++z.drop (off+size)) r K
def nM(e:Env)(s:Nat)(xs:List AV):List (Nat×aI)->(List AV->Prop)->Prop
 | [],K=>K xs
 |(i,x)::r,K=>(x.ev e).cells.length=s/\(x.ev e).storable=true/\i<xs.length/\nM e s (xs.set i (x.ev e)) r K
def fB(d:Int)(e:Env):Option aI->(Int->Prop)->Prop
 |none,K=>K d
 |some x,K=>match x.ev e with| .v (.int _ i)=>K i|_=>False
def sn(O:List ad)(y:AV)(K:List AV->Prop):Prop:=
 match y with
 | .aw=>K []
 | .sl ys=>K ys
 | .row n len=>match O[n]? with
   |some (.live _ _ xs)=>xs.length=len/\K xs
   |some (.nil _ _)=>len=0/\K []
   |_=>False
 |_=>False
mutual
def AV.ag:AV->Bool
 | .top| .v _| .aw| .v7=>true
 | .sl xs=>AV.ae xs
 | .cj x _=>x.ag
 | .row _ _| .ptr _ _ _ _=>false
 | .fn _ cs=>AV.ae cs
 | .agg cs=>AV.ae cs
 | .a9 vs=>AV.ae vs
 | .own _=>false
def AV.ae:List AV->Bool
 | []=>true
 |x::xs=>x.ag&&AV.ae xs
end
def iW(O:List ad)(a:AV):AV:=
 match a with
 | .row n len=>match O[n]? with
   |some (.live _ _ xs)=>if xs.length=len then .sl xs else a
   |some (.nil _ _)=>if len=0 then .sl []else a
   |_=>a
 | .own n=>match O[n]? with
   |some (.own b)=>b
   |_=>a
 |a=>a
def AV.flat:AV->Bool
 | .v _=>true
 | .a9 vs=>vs.all λ x=>match x with| .v _=>true|_=>false
 |_=>false
def eD(O:List ad)(a:AV):List ad:=
 match a with
 | .row n _=>O.set n .dead
 | .own n=>O.set n .dead
 |_=>O
def xo(O:List ad)(args:List AV)(res:AV):List ad:=if res.flat=true then O else args.foldl eD O
def iu(O:List ad)(x:AV)(t s bytes:Nat)(ys:List AV)(K:AV->List ad->Prop):Prop:=
 match x with
 | .aw=>ys.length*bytes<=140737488355328/\ys.length<=maxLen/\(ys= []->K .aw O)/\(ys≠[]->K (.row O.length ys.length) (O++ [.live t s ys]))
 | .row n len=>match O[n]? with
   |some (.live t' s' xs)=>t'=t/\s'=s/\xs.length=len/\(len+ys.length)*bytes<=140737488355328/\len+ys.length<=maxLen/\
    K (.row n (len+ys.length)) (O.set n (.live t s (xs++ys)))
   |some (.nil t' s')=>t'=t/\s'=s/\len=0/\ys.length*bytes<=140737488355328/\ys.length<=maxLen/\
    (ys= []->K (.row n 0) O)/\(ys≠[]->K (.row n ys.length) (O.set n (.live t s ys)))
   |_=>False
 |_=>False
def aI.okc:aI->Bool
 | .t _=>true
 | .c a=>a.ag
def refs:AV->List Nat
 | .row n _=>[n]
 | .ptr n _ _ _=>[n]
 | .own n=>[n]
 |_=>[]
def AV.one:AV->Bool
 | .row n _=>n==0
 | .ptr n _ _ _=>n==0
 | .own n=>n==0
 |x=>x.ag
def ad.ae:ad->Bool
 | .live _ _ xs=>AV.ae xs
 | .cZ (.mp es)=>es.all λ p=>p.1.ag&&p.2.ag
 |_=>true
def wpOp(P:Program)(o:ez)(e:Env)(O:List ad)(K:AV->List ad->Prop):Prop:=
 match o with
 | .stuck=>False
 | .iR _ s len z parts=>nM e s (List.replicate len z) parts λ xs=>AV.ae xs=true/\K (.sl xs) O
 | .pu o args=>AV.ae (args.map λ x=>iW O (x.ev e))=true/\puK o (args.map λ x=>iW O (x.ev e)) λ v=>K v O
 | .kN t s bytes x y=>match y.ev e with
   | .v (.string b)=>s=1/\iu O (x.ev e) t s bytes (b.data.toList.map λ c=> .v (.int .u8 c.toNat)) K
   |_=>False
 | .aA x=>K (x.ev e) O
 | .pick c a b=>match c.ev e with
   | .v (.bool t)=>K (if t then a.ev e else b.ev e) O
   |_=>False
 | .alloc t s z=>K (.ptr O.length 1 0 0) (O++ [.live t s [z]])
 | .box t s x=>(x.ev e).cells.length=s/\(x.ev e).storable=true/\K (.ptr O.length 1 0 0) (O++ [.live t s [x.ev e]])
 | .build z parts=>jy e z parts λ a=>K a O
 | .buildSlice t s len z parts=>nM e s (List.replicate len z) parts λ xs=>K (.row O.length len) (O++ [.live t s xs])
 | .gG k t s z=>z.ag=true/\O[k]? =some (.nil t s)/\K (.ptr k 1 0 0) (O.set k (.live t s [z]))
 | .m9 k t s x=>x.okc=true/\O[k]? =some (.nil t s)/\(x.ev e).cells.length=s/\(x.ev e).storable=true/\K (.ptr k 1 0 0) (O.set k (.live t s [x.ev e]))
 | .gF k t s len z parts=>z.ag=true/\parts.all (λ p=>p.2.okc)=true/\nM e s (List.replicate len z) parts λ xs=>O[k]? =some (.nil t s)/\xs≠[]/\K (.row k len) (O.set k (.live t s xs))
 | .load n x=>match x.ev e with
   | .cj y f=>f+n.getD 1<=y.cells.length/\K (dI n y f) O
   | .ptr k len i f=>match O[k]? with
     |some (.live _ _ xs)=>xs.length=len/\i<len/\f+n.getD 1<=(xs.getD i .top).cells.length/\K (dI n (xs.getD i .top) f) O
     |_=>False
   |_=>False
 | .store m x y=>match x.ev e with
   | .ptr k len i f=>match O[k]? with
     |some (.live t s xs)=>xs.length=len/\i<len/\(y.ev e).cells.length=m/\(y.ev e).storable=true/\f+m<=(xs.getD i .top).cells.length/\
      K .top (O.set k (.live t s (xs.set i (rH (xs.getD i .top) f (y.ev e)))))
     |_=>False
   |_=>False
 | .bin op x y=>match x.ev e,y.ev e with
   | .v a,.v b=>match lC op a b with
     |some z=>K (.v z) O
     |none=>False
   |_,_=>False
 | .beq neg x y=>match x.ev e,y.ev e with
   | .v (.bool a),.v (.bool b)=>K (.v (.bool (neg !=(a==b)))) O
   |_,_=>False
 | .un op x=>match x.ev e with
   | .v a=>match sun op a with
     |some z=>K (.v z) O
     |none=>False
   |_=>False
 | .j6 k x=>match x.ev e with
   | .v (.int _ n)=>K (.v (.int k (k.wrap n))) O
   |_=>False
 | .aK off x=>match x.ev e with
   | .cj y f=>K (.cj y (f+off)) O
   | .ptr n len i f=>match O[n]? with
     |some (.live _ _ xs)=>xs.length=len/\K (.ptr n len i (f+off)) O
     |_=>False
   |_=>False
 | .zZ off n x=>(x.ev e).isAgg=true/\off+n.getD 1<=(x.ev e).cells.length/\K (dI n (x.ev e) off) O
 | .bJ s x i=>match x.ev e,i.ev e with
   | .sl xs,.v (.int _ i)=>0<=i/\i<xs.length/\(xs.getD i.toNat .top).cells.length=s/\K (.cj (xs.getD i.toNat .top) 0) O
   | .row n len,.v (.int _ i)=>match O[n]? with
     |some (.live _ s' xs)=>s'=s/\xs.length=len/\0<=i/\i<len/\K (.ptr n len i.toNat 0) O
     |_=>False
   |_,_=>False
 | .wx m s x i=>match x.ev e,i.ev e with
   | .cj y f,.v (.int _ i)=>0<=i/\i<m/\K (.cj y (f+i.toNat*s)) O
   | .ptr n len j f,.v (.int _ i)=>match O[n]? with
     |some (.live _ _ xs)=>xs.length=len/\0<=i/\i<m/\K (.ptr n len j (f+i.toNat*s)) O
     |_=>False
   |_,_=>False
 | .lF x i=>match x.ev e,i.ev e with
   | .v (.string s),.v (.int _ i)=>0<=i/\i<s.size/\K (.v (.int .u8 (s.data.toList.getD i.toNat 0).toNat)) O
   |_,_=>False
 | .fI x lo hi=>match x.ev e with
   | .v (.string s)=>fB 0 e lo λ l=>fB s.size e hi λ h=>0<=l/\l<=h/\h<=s.size/\K (.v (.string (s.extract l.toNat h.toNat))) O
   |_=>False
 | .cX s x lo hi=>match x.ev e with
   | .sl xs=>fB 0 e lo λ l=>fB xs.length e hi λ h=>0<=l/\l<=h/\h<=xs.length/\(∀y∈xs,y.cells.length=s)/\K (.sl ((xs.take h.toNat).drop l.toNat)) O
   |_=>False
 | .ad9 t s bytes z x n=>match x.ev e,n.ev e with
   | .aw,.v (.int .i64 k)=>0<k/\bytes*k<=2^48/\k<=maxLen/\K (.row O.length k.toNat) (O++ [.live t s (List.replicate k.toNat z)])
   |_,_=>False
 | .cut s x lo hi=>match x.ev e with
   | .aw=>fB 0 e lo λ l=>fB 0 e hi λ h=>l=0/\h=0/\K .aw O
   | .row n len=>match O[n]? with
     |some (.live t s' xs)=>xs.length=len/\s'=s/\fB 0 e lo λ l=>fB len e hi λ h=>l=0/\h=0/\K (.row O.length 0) (O.set n .dead++ [.live t s []])
     |_=>False
   |_=>False
 | .mk t s bytes z len cap=>match len.ev e,cap.ev e with
   | .v (.int .i64 n),.v (.int .i64 c)=>0<=n/\n<=c/\bytes*c<=2^48/\c<=maxLen/\K (.row O.length n.toNat) (O++ [.live t s (List.replicate n.toNat z)])
   |_,_=>False
 | .mkF _ _ bytes z len cap=>match len.ev e,cap.ev e with
   | .v (.int .i64 n),.v (.int .i64 c)=>0<=n/\n<=c/\bytes*c<=2^48/\c<=maxLen/\z.ag=true/\K (.sl (List.replicate n.toNat z)) O
   |_,_=>False
 | .y4 k t s bytes z len cap=>match len.ev e,cap.ev e with
   | .v (.int .i64 n),.v (.int .i64 c)=>0<n/\n<=c/\bytes*c<=2^48/\c<=maxLen/\z.ag=true/\O[k]? =some (.nil t s)/\K (.row k n.toNat) (O.set k (.live t s (List.replicate n.toNat z)))
   |_,_=>False
 | .lg x=>match x.ev e with
   | .v (.string s)=>K (.v (.int .i64 s.size)) O
   |_=>False
 | .bm x=>match x.ev e with
   | .aw=>K (.v (.int .i64 0)) O
   | .sl xs=>K (.v (.int .i64 xs.length)) O
   | .row n len=>match O[n]? with
     |some (.live _ _ xs)=>xs.length=len/\K (.v (.int .i64 len)) O
     |some (.nil _ _)=>len=0/\K (.v (.int .i64 0)) O
     |_=>False
   |_=>False
 | .app t s bytes x y=>sn O (y.ev e) λ ys=>(∀y∈ys,y.cells.length=s)/\iu O (x.ev e) t s bytes ys K
 | .ext x i=>match x.ev e with
   | .a9 vs=>i<vs.length/\K (vs.getD i .top) O
   |_=>False
 | .ca x=>match x.ev e with
   | .cj y f=>K (.cj y f) O
   | .fn f aX=>K (.fn f aX) O
   | .ptr n len i f=>match O[n]? with
     |some (.live _ _ xs)=>xs.length=len/\K (.ptr n len i f) O
     |_=>False
   |_=>False
 | .sI f aX=>K (.fn f (aX.map (aI.ev e))) O
 | .call f args=>∃res O',fE P f (args.map (aI.ev e)) O res O'/\K res O'
 | .ew x args=>match x.ev e with
   | .fn f aX=>∃res O',fE P f (args.map (aI.ev e)++aX) O res O'/\K res O'
   |_=>False
 | .nw f args=>∃res,AV.ae (args.map λ x=>iW O (x.ev e))=true/\a7 P f (args.map λ x=>iW O (x.ev e)) res/\K res (xo O (args.map (aI.ev e)) res)
 | .jV x args=>match x.ev e with
   | .fn f aX=>∃res,AV.ae ((args.map λ x=>iW O (x.ev e))++aX)=true/\a7 P f ((args.map λ x=>iW O (x.ev e))++aX) res/\K res (xo O (args.map (aI.ev e)) res)
   |_=>False
 | .lK f args=>∃res,AV.ae (args.map (aI.ev e))=true/\a7 P f (args.map (aI.ev e)) res/\K res O
 | .mJ f args=>∃res,res.flat=true/\AV.ae (args.map λ x=>iW O (x.ev e))=true/\a7 P f (args.map λ x=>iW O (x.ev e)) res/\K res O
 | .eW _ _ _ f args=>∃res ob,AV.ae (args.map (aI.ev e))=true/\fE P f (args.map (aI.ev e)) [] res [ob]/\K (res.bP λ n=>O.length+n) (O++ [ob.bP λ n=>O.length+n])
 | .bk _ f args=>∃res O',fE P f (args.map (aI.ev e)) O res O'/\K res O'
 | .jU _ f args=>∃n a0 ob res ob',args.map (aI.ev e)=a0.map (AV.bP λ _=>n)/\a0.all AV.one=true/\(args.flatMap λ x=>refs (x.ev e))= [n]/\O[n]? =some ob/\ob.ae=true/\res.ag=true/\ob'.ae=true/\fE P f a0 [ob] res [ob']/\K res (O.set n ob')
 | .yZ=>K (.own O.length) (O++ [.cZ (.mp [])])
 | .akJ ok d z m k=>match m.ev e,k.ev e with
   | .own n,.v kv=>match O[n]? with
     |some (.cZ (.mp es))=>d.ok kv=true/\d.all es=true/\K (match nB kv es 0 with
      |none=>if ok then .a9 [z,.v (.bool false)]else z
      |some (_,v)=>if ok then .a9 [v,.v (.bool true)]else v) O
     |_=>False
   |_,_=>False
 | .pK d m k v=>match m.ev e,k.ev e with
   | .own n,.v kv=>match O[n]? with
     |some (.cZ (.mp es))=>d.ok kv=true/\d.all es=true/\K (.a9 []) (O.set n (.cZ (.mp (Go.Ab.pK kv (v.ev e) es))))
     |_=>False
   |_,_=>False
 | .aa2 ok z m k=>match m.ev e,k.ev e with
   | .own n,.ptr j 1 0 0=>match O[n]? with
     |some (.cZ (.mp es))=>ei O j=true/\jc O es=true/\K (match ic j es 0 with
      |none=>if ok then .a9 [z,.v (.bool false)]else z
      |some (_,v)=>if ok then .a9 [v,.v (.bool true)]else v) O
     |_=>False
   |_,_=>False
 | .kE m k v=>match m.ev e,k.ev e with
   | .own n,.ptr j 1 0 0=>match O[n]? with
     |some (.cZ (.mp es))=>ei O j=true/\jc O es=true/\K (.a9 []) (O.set n (.cZ (.mp (Go.Ab.kE j (v.ev e) es))))
     |_=>False
   |_,_=>False
 | .abx x=>match x.ev e with
   | .v (.string s)=>K (.own O.length) (O++ [.cZ (.it s 0)])
   |_=>False
 | .abA x=>match x.ev e with
   | .own n=>match O[n]? with
     |some (.cZ (.it s pos))=>(pos<s.size->K (.a9 [.v (.bool true),.v (.int .i64 pos),.v (.int .i32 (Utf8.decode s pos).1)]) (O.set n (.cZ (.it s (pos+(Utf8.decode s pos).2)))))/\(¬pos<s.size->K (.a9 [.v (.bool false)]) O)
     |_=>False
   |_=>False
 | .s2b t x=>match x.ev e with
   | .v (.string s)=>s.size<=maxLen/\K (.row O.length s.size) (O++ [.live t 1 (s.data.toList.map λ c=> .v (.int .u8 c.toNat))])
   |_=>False
 | .y6 t x=>match x.ev e with
   | .row n len=>match O[n]? with
     |some (.live t' s xs)=>t'=t/\s=1/\xs.length=len/\K (.row n len) O
     |_=>False
   |_=>False
 | .wJ neg x=>match x.ev e with
   | .v (.pointer none)=>K (.v (.bool (neg !=true))) O
   | .ptr n len _ _=>match O[n]? with
     |some (.live _ _ xs)=>xs.length=len/\K (.v (.bool (neg !=false))) O
     |_=>False
   |_=>False
 | .peq neg x y=>match x.ev e,y.ev e with
   | .ptr n 1 0 0,.ptr m 1 0 0=>ei O n=true/\ei O m=true/\K (.v (.bool (neg !=decide (n=m)))) O
   |_,_=>False
 | .rR rd f args=>∃res ob,(∀O':List ad,O'.length=O.length->(∀n∈rd,O'[n]? =O[n]?)->fE P f (args.map (aI.ev e)) O' res (O'++ [ob]))/\K res (O++ [ob])
 | .rS rd f args=>∃res,(∀O':List ad,(∀n∈rd,O'[n]? =O[n]?)->fE P f (args.map (aI.ev e)) O' res O')/\K res O
 | .nq kp f args=>∃res O',fE P f (args.map (aI.ev e)) O res O'/\(∀n∈kp,O'[n]? =O[n]?)/\K res O'
 | .iN x args=>match x.ev e with
   | .fn f aX=>∃res,AV.ae (args.map (aI.ev e)++aX)=true/\a7 P f (args.map (aI.ev e)++aX) res/\K res O
   |_=>False
def asr:Value->Option AV
 | .bool b=>some (.v (.bool b))
 | .int k n=>some (.v (.int k n))
 | .string s=>some (.v (.string s))
 | .pointer none=>some (.v (.pointer none))
 | .map none=>some (.v (.map none))
 | .nilFunc=>some (.v .nilFunc)
 | .nilIface=>some (.v .nilIface)
 | .slice none 0 0=>some .aw
 |_=>none
def alS:Value->Option AV
 | .agg cs=>(cs.toList.mapM asr).map .agg
 | .func (.func f) first captured=>if first.size=0/\captured.size=0 then some (.fn f [])else none
 |x=>asr x
def bH:Operand->Option aI
 | .tmp t=>some (.t t)
 | .const v=>(alS v).map .c
 | .func f=>some (.c (.fn f []))
 | .global _=>none
def apf(l:Array Operand):Option (List aI):=l.toList.mapM bH
def m7(P:Program)(t:TypeId):Option (Nat×Nat×AV):=do
 let i ←P.info? t
 let z ←i.zero
 let a ←alS z
 if a.cells.length=i.size/\0<i.size/\z.cells.size=i.size/\a.storable=true then some (i.size,i.bytes,a)else none
def aas(d:TypeDesc):Bool:=
 match d with
 | .struct _| .array _ _=>true
 |_=>false
def vA(P:Program)(t:TypeId):Option (Option Nat):=do
 let d ←P.underlying t
 let i ←P.info? t
 if aas d=true then(if 0<i.size then some (some i.size)else none)else some none
def pj(P:Program)(t:TypeId):Option TypeId:=
 match P.underlying t with
 |some (.slice e)=>some e
 |_=>none
def jF:BinOp->Bool
 | .neq=>true
 |_=>false
def afn(P:Program)(op:BinOp)(t:TypeId):Bool:=
 match op,P.underlying t with
 | .eql,some .bool=>true
 | .neq,some .bool=>true
 |_,_=>false
def mR(op:BinOp):Bool:=
 match op with
 | .eql| .neq=>true
 |_=>false
def ars(P:Program)(t:TypeId):Bool:=
 match P.underlying t with
 |some (.slice _)=>true
 |_=>false
def ajm(P:Program)(t:TypeId):Bool:=
 match P.underlying t with
 |some (.pointer _)=>true
 |_=>false
def v5(P:Program)(t:TypeId):Bool:=
 match P.underlying t with
 |some (.pointer el)=>match P.info? el with
  |some i=>decide (0<i.size)
  |none=>false
 |_=>false
def ajl(P:Program)(op:BinOp)(t:TypeId):Bool:=mR op&&v5 P t
def anR(P:Program)(t:TypeId):Bool:=
 match P.underlying t with
 |some (.interface _)=>true
 |_=>false
def aa7(P:Program)(t:TypeId):Bool:=
 match P.underlying t with
 |some (.int .u8)=>true
 |_=>false
def isInt(P:Program)(t:TypeId):Bool:=
 match P.underlying t with
 |some (.int _)=>true
 |_=>false
def bY(P:Program)(type:TypeId)(o:Op):Option ez:=
 match o with
 | .move x| .assign x=>do some (.aA (←bH x))
 | .pick c a b=>do some (.pick (←bH c) (←bH a) (←bH b))
 | .alloc t=>do let(s,_,z) ←m7 P t;some (.alloc t s z)
 | .box t x=>do let i ←P.info? t;if 0<i.size then some (.box t i.size (←bH x))else none
 | .build t parts=>
   match P.underlying t with
   |some (.struct fs)=>do
    let(_,_,z) ←m7 P t
    let _ ←fs.toList.mapM (λ f=>(P.info? f.type).map λ i=>(f.offset,i.size))
    let ps ←parts.toList.mapM λ (i,x)=>do let f ←fs[i]?;let n ←P.info? f.type;some (f.offset,n.size,←bH x)
    some (.build z.cells ps)
   |some (.array _ el)=>if parts.isEmpty then do
     let(_,_,z) ←m7 P t
     let _ ←P.info? el
     some (.build z.cells [])
    else none
   |_=>none
 | .buildSlice t len parts=>do
   let e ←pj P t
   let(s,_,z) ←m7 P e
   let ps ←parts.toList.mapM λ (i,x)=>do some (i,←bH x)
   if len*s<=2^24 then some (.buildSlice e s len z ps)else none
 | .load t x=>do some (.load (←vA P t) (←bH x))
 | .store t x y=>do some (.store (←P.info? t).size (←bH x) (←bH y))
 | .nilCheck x=>do some (.ca (←bH x))
 | .binOp op t x y _=>if afn P op t=true then do some (.beq (jF op) (←bH x) (←bH y))else if ajl P op t=true then do some (.peq (jF op) (←bH x) (←bH y))else do some (.bin op (←bH x) (←bH y))
 | .unOp op _ x=>do some (.un op (←bH x))
 | .convert src dst x=>match P.underlying src,P.underlying dst with
   |some (.int _),some (.int k)=>do some (.j6 k (←bH x))
   |some .string,some (.slice e)=>if aa7 P e=true then do some (.s2b e (←bH x))else none
   |some (.slice _),some (.slice e)=>if aa7 P e=true/\src=dst then do some (.y6 e (←bH x))else none
   |_,_=>none
 | .fieldAddr t x f=>match P.underlying t with
   |some (.struct fs)=>do
    let g ←fs[f]?
    if 0<(←P.info? g.type).size then some (.aK g.offset (←bH x))else none
   |_=>none
 | .field t x f=>match P.underlying t with
   |some (.struct fs)=>do
    let g ←fs[f]?
    some (.zZ g.offset (←vA P g.type) (←bH x))
   |_=>none
 | .indexAddr t x i=>match P.underlying t with
   |some (.array m el)=>do some (.wx m (←P.info? el).size (←bH x) (←bH i))
   |_=>do
    let e ←pj P t
    some (.bJ (←P.info? e).size (←bH x) (←bH i))
 | .index t x i=>match P.underlying t with
   |some .string=>do some (.lF (←bH x) (←bH i))
   |_=>none
 | .slice t x lo hi mx=>
   if mx.isSome then none else
   match P.underlying t with
   |some .string=>do some (.fI (←bH x) (←lo.mapM bH) (←hi.mapM bH))
   |some (.slice e)=>do some (.cX (←P.info? e).size (←bH x) (←lo.mapM bH) (←hi.mapM bH))
   |_=>none
 | .makeSlice t l c=>do
   let e ←pj P t
   let(s,b,z) ←m7 P e
   some (.mk e s b z (←bH l) (←bH c))
 | .extract x i=>do some (.ext (←bH x) i)
 | .makeMap _ none=>some .yZ
 | .lookup t m k ok=>match P.underlying t with
   |some (.map kt et)=>if v5 P kt=true then do
     let(_,_,z) ←m7 P et
     some (.aa2 ok z (←bH m) (←bH k))
    else do
     let d ←KD.of (←P.underlying kt)
     let(_,_,z) ←m7 P et
     some (.akJ ok d z (←bH m) (←bH k))
   |_=>none
 | .mapUpdate t m k v=>match P.underlying t with
   |some (.map kt _)=>if v5 P kt=true then do some (.kE (←bH m) (←bH k) (←bH v))else do
    let d ←KD.of (←P.underlying kt)
    some (.pK d (←bH m) (←bH k) (←bH v))
   |_=>none
 | .insert t m k v=>match P.underlying t with
   |some (.map kt _)=>if v5 P kt=true then do some (.kE (←bH m) (←bH k) (←bH v))else do
    let d ←KD.of (←P.underlying kt)
    some (.pK d (←bH m) (←bH k) (←bH v))
   |_=>none
 | .range t x=>match P.underlying t with
   |some .string=>do some (.abx (←bH x))
   |_=>none
 | .next x true=>do some (.abA (←bH x))
 | .makeFunc (.func f) first aX=>if first.isEmpty then do some (.sI f (←apf aX))else none
 |_=>none
def ez.zn:ez->Bool
 | .call _ _| .ew _ _| .nw _ _| .jV _ _| .lK _ _| .iN _ _| .mJ _ _| .eW _ _ _ _ _| .bk _ _ _| .jU _ _ _| .rR _ _ _| .rS _ _ _| .nq _ _ _=>true
 |_=>false
def wu(P:Program)(c:Call):Option ez:=
 match c.callee with
 | .value f=>match bH f,apf c.args with
   |some (.c (.fn f [])),some args=>some (.call f args)
   |some x,some args=>some (.ew x args)
   |_,_=>none
 | .builtin .len=>match c.argTypes.toList,c.args.toList with
   | [t],[x]=>match P.underlying t with
     |some .string=>(bH x).map .lg
     |some (.slice _)=>(bH x).map .bm
     |_=>none
   |_,_=>none
 | .builtin .append=>match c.argTypes.toList,c.args.toList with
   | [t,u],[x,y]=>if t=u then do
       let e ←pj P t
       let(s,b,_) ←m7 P e
       some (.app e s b (←bH x) (←bH y))else none
   |_,_=>none
 |_=>none
def xm(P:Program)(type:TypeId)(o:Op):Option ez:=
 match o with
 | .call c=>wu P c
 |o=>(bY P type o).bind λ a=>if a.zn=true then none else some a
def isStr(P:Program)(t:TypeId):Bool:=
 match P.underlying t with
 |some .string=>true
 |_=>false
def alz(P:Program)(o:Op):Option ez:=
 match o with
 | .binOp op t x (.const (.slice none 0 0)) _=>if mR op=true/\ars P t=true then do some (.pu (.u5 (jF op)) [←bH x])else none
 | .binOp op t x (.const (.pointer none)) _=>if mR op=true/\ajm P t=true then do some (.pu (.o0 (jF op)) [←bH x])else none
 | .binOp op t x (.const .nilIface) _=>if mR op=true/\anR P t=true then do some (.pu (.u6 (jF op)) [←bH x])else none
 | .convert s d x=>do
   let e ←pj P s
   if aa7 P e=true/\isStr P d=true then some (.pu .b2s [←bH x])else none
 | .call c=>
   match c.callee,c.argTypes.toList,c.args.toList with
   | .builtin .append,[t,u],[x,y]=>if isStr P u=true then do
     let e ←pj P t
     let(s,b,_) ←m7 P e
     if aa7 P e=true then some (.kN e s b (←bH x) (←bH y))else none
     else if isInt P u=true then do
      let e ←pj P t
      let(s,b,z) ←m7 P e
      some (.ad9 e s b z (←bH x) (←bH y))
     else none
   | .builtin .cap,[t],[x]=>if ars P t=true then do some (.pu .ej [←bH x])else none
   | .builtin .min,[_,_],[x,y]=>do some (.pu .min [←bH x,←bH y])
   | .builtin .max,[_,_],[x,y]=>do some (.pu .max [←bH x,←bH y])
   |_,_,_=>none
 |_=>none
def alA(P:Program)(type:TypeId)(o:Op):ez:=
 match alz P o with
 |some a=>a
 |none=>(xm P type o).getD .stuck
def cOp(P:Program)(type:TypeId)(o:Op):Option ez:=some (alA P type o)
end Go.Ab
namespace Go.Ab
theorem add_lit(b o j:Nat):(⟨b,o,none⟩:Addr).add j=⟨b,o+j,none⟩:=by
 unfold Addr.add;split<;>simp_all
section
variable {I:du} {L:Nat->Loc} {O:List ad}
theorem aat{v:Value}{a:AV}(h:asr v=some a):R I L O a v:=by
 unfold asr at h
 split at h<;>cases h<;>first|exact .v _ rfl|exact .aw
theorem mapM_some{α β:Type}{f:α->Option β}:∀{l:List α} {r:List β},l.mapM f=some r->r.length=l.length/\∀(i:Nat) (x:α) (y:β),l[i]? =some x->r[i]? =some y->f x=some y
 | [],r,h=>by simp at h;subst h;simp
 |a::l,r,h=>by
  simp only[mapM_cons,bind_eq_bind,bind_eq_some_iff,pure_def,Option.some.injEq]at h;obtain⟨b,hb,bs,hbs,rfl⟩:=h;obtain⟨h1,h2⟩:=mapM_some hbs;refine⟨by simp[h1],λ i x y hx hy=> ?_⟩;cases i with
  |zero=>simp at hx hy;subst hx;subst hy;exact hb
  |succ i=>simp at hx hy;exact h2 i x y hx hy
theorem eO{v:Value}{a:AV}(h:alS v=some a):R I L O a v:=by
 unfold alS at h
 split at h
 ·rename_i cs;simp only[map_eq_some_iff]at h;obtain⟨as,has,rfl⟩:=h;obtain⟨h1,h2⟩:=mapM_some has;refine .agg _ _ (by simpa using h1) λ i c x hc hx=>aat (h2 i x c (by simpa using hx) hc)
 ·rename_i f first captured
  split at h
  ·rename_i hh;cases h;obtain rfl:first= #[]:=Array.eq_empty_of_size_eq_zero hh.1
   exact .fn _ _ _ (by simp[hh.2]) (by simp)
  ·cases h
 ·exact aat h
theorem aq{x:Operand}{ax:aI}(h:bH x=some ax){e:Env}{a:Act}(he:∀t,R I L O (e t) (a.tmps.getD t undef)):R I L O (ax.ev e) (a.eval x):=by
 unfold bH at h
 split at h
 ·cases h;exact he _
 ·simp only[map_eq_some_iff]at h;obtain⟨c,hc,rfl⟩:=h;exact eO hc
 ·cases h;exact .fn _ _ _ rfl (by simp)
 ·cases h
theorem R.cg{a:AV}{x:Value}(h:R I L O a x)(hc:a.cg=true):x.oneCell'=true:=by
 cases h<;>first|rfl|(simp[AV.cg]at hc;done)|assumption|exact gJ.val_one _ _
theorem Value.als{x:Value}(h:x.oneCell'=true):x.cells= #[x]:=by
 cases x<;>first|rfl|(simp[Value.oneCell']at h;done)
theorem AV.gD{a:AV}(h:a.cg=true):a.cells= [a]:=by
 cases a<;>first|rfl|(simp[AV.cg]at h;done)
theorem AV.vE{a:AV}(h:a.isAgg=true):a= .agg a.cells:=by
 cases a<;>first|rfl|(simp[AV.isAgg]at h;done)
theorem R.cells{a:AV}{x:Value}(h:R I L O a x)(hc:(a.cg||a.isAgg)=true):
  a.cells.length=x.cells.size/\∀(j:Nat) c,a.cells[j]? =some c->∃y,x.cells[j]? =some y/\R I L O c y:=by
 by_cases h1:a.cg=true
 ·have h2:=h.cg h1;rw[AV.gD h1,Value.als h2];refine⟨rfl,λ j c hj=> ?_⟩;cases j with
  |zero=>simp at hj;subst hj;exact⟨x,rfl,h⟩
  |succ j=>simp at hj
 ·have h3:a.isAgg=true:=by simpa [h1]using hc
  rw[AV.vE h3]at h;cases h with
  |agg _ vs hl hr=>
   refine⟨hl,λ j c hj=> ?_⟩;have aF:j<vs.size:=by rw[←hl];exact(List.getElem?_eq_some_iff.1 hj).1
   have hy:vs[j]? =some vs[j]:=by simp[aF]
   exact⟨vs[j],hy,hr j c _ hj hy⟩
theorem mF{a:AV}(h:a.storable=true):(a.cg||a.isAgg)=true:=by
 cases a<;>first|rfl|(simp[AV.storable,AV.cells,AV.cg]at h;done)
theorem R.qG{a:AV}{x:Value}(h:R I L O a x)(hc:a.storable=true):
  a.cells.length=x.cells.size/\∀(j:Nat) c,a.cells[j]? =some c->∃y,x.cells[j]? =some y/\y.oneCell'=true/\R I L O c y:=by
 obtain⟨h1,h2⟩:=h.cells (mF hc);refine⟨h1,λ j c hj=> ?_⟩;obtain⟨y,hy,hr⟩:=h2 j c hj;exact⟨y,hy,hr.cg (List.all_eq_true.1 hc c (mem_of_getElem? hj)),hr⟩
theorem R.awo{a:AV}{x:Value}(h:R I L O a x)(hc:a.storable=true):∀v∈x.cells.toList,v.oneCell'=true:=by
 obtain⟨h1,h2⟩:=h.qG hc;intro v hv;obtain⟨j,hj⟩:=List.getElem?_of_mem hv;have hj':x.cells[j]? =some v:=by simpa using hj
 have aF:j<a.cells.length:=by rw[h1];exact(Array.getElem?_eq_some_iff.1 hj').1
 obtain⟨y,hy,ho,_⟩:=h2 j a.cells[j] (by simp[aF]);rw[hj']at hy;cases hy;exact ho
end
theorem R.eu{I:du}{L:Nat->Loc}{O:List ad}{n len e s:Nat}{xs:List AV}{x:Value}(h:R I L O (.row n len) x)(hn:O[n]? =some (.live e s xs))(hl:xs.length=len):
  x= .slice (some ⟨(L n).bf,0,none⟩) len (L n).cap:=by
 cases h with
 |cf=>rfl
 |gu _ _ _ mb=>rw[hn]at mb;cases mb
 |eQ _ _ _ _ _ hd=>have:=hd _ _ _ hn;omega
theorem R.kR{I:du}{L:Nat->Loc}{O:List ad}{n len e s:Nat}{x:Value}(h:R I L O (.row n len) x)(hn:O[n]? =some (.nil e s)):x= .slice none 0 0/\len=0:=by
 cases h with
 |cf _ _ _ _ _ mb=>rw[hn]at mb;cases mb
 |gu=>exact⟨rfl,rfl⟩
 |eQ _ _ _ _ hd=>exact(hd _ _ hn).elim
theorem R.ib{I:du}{L:Nat->Loc}{O:List ad}{n len i f e s:Nat}{xs:List AV}{x:Value}(h:R I L O (.ptr n len i f) x)(hn:O[n]? =some (.live e s xs))(hl:xs.length=len):
  x= .pointer (some ⟨(L n).bf,i*s+f,none⟩):=by
 cases h with
 |dV _ _ _ _ _ _ _ mb=>rw[hn]at mb;cases mb;rfl
 |gv _ _ _ _ _ _ _ hd=>have:=hd _ _ _ hn;omega
theorem qR{P:Program}{t:TypeId}{d:TypeDesc}(hd:P.underlying t=some d)(w:World):
  (isAgg t).run P w= .ok (aas d) w:=by
 cases d<;>simp[isAgg,run_underlying hd,aas]
def tF(n:Option Nat)(bz:Nat->Value):Value:=
 match n with
 |none=>bz 0
 |some m=> .agg ((List.range m).map bz).toArray
theorem sw{P:Program}{t:TypeId}{n:Option Nat}(hn:vA P t=some n)(b o:Nat)(bz:Nat->Value)(w:World)
  (hc:∀j,j<n.getD 1->w.cell? ⟨b,o+j,none⟩=some (bz j)):
  (Instr.loadAt t (.pointer (some ⟨b,o,none⟩))).run P w= .ok (tF n bz) w:=by
 unfold vA at hn;simp only[bind_eq_bind,bind_eq_some_iff]at hn;obtain⟨d,hd,i,hi,hn⟩:=hn;cases n with
 |none=>
  have hf:aas d=false:=by
   by_cases h:aas d=true
   ·rw[if_pos h]at hn;split at hn<;>simp at hn
   ·simpa using h
  have h0:=hc 0 (by simp);simp only[add_zero]at h0;simp[Instr.loadAt,Instr.sureAddr,loadVar,qR hd,hf,run_load,h0,tF]
 |some m=>
  have hf:aas d=true/\i.size=m:=by
   by_cases h:aas d=true
   ·rw[if_pos h]at hn;split at hn<;>simp at hn;exact⟨h,hn⟩
   ·rw[if_neg h]at hn;simp at hn
  have hl:=run_loadCells (P:=P) w ⟨b,o,none⟩ m bz (λ j hj=>by rw[add_lit];exact hc j (by simpa using hj));simp[Instr.loadAt,Instr.sureAddr,loadVar,qR hd,hf.1,sizeOf,typeInfo,hi,hf.2,hl,tF]
theorem nD{I:du}{L:Nat->Loc}{O:List ad}{x:AV}{n:Option Nat}{f:Nat}{bz:Nat->Value}(hf:f+n.getD 1<=x.cells.length)
  (hr:∀(j:Nat) c,x.cells[f+j]? =some c->j<n.getD 1->R I L O c (bz j)):
  R I L O (dI n x f) (tF n bz):=by
 cases n with
 |none=>
  simp only[Option.getD_none]at hf;have h1:x.cells[f]? =some x.cells[f]:=by simp[show f<x.cells.length by omega]
  have:=hr 0 _ (by rw[add_zero];exact h1) (by simp);simpa [dI,List.getD,h1,tF]using this
 |some m=>
  simp only[Option.getD_some]at hf hr;simp only[dI,tF]
  split
  ·rename_i hh;obtain⟨rfl,ha,hl⟩:=hh;rw[AV.vE ha];refine .agg _ _ (by simp[hl]) λ i c v hc hv=> ?_
   have aF:i<m:=by rw[←hl];exact(List.getElem?_eq_some_iff.1 hc).1
   simp[aF]at hv;subst hv;exact hr i c (by simpa using hc) aF
  ·refine .agg _ _ (by simp;omega) λ i c v hc hv=> ?_
   have aF:i<m:=by
    have:=(List.getElem?_eq_some_iff.1 hc).1;simp at this;omega
   simp[aF]at hv;subst hv;rw[getElem?_take,if_pos aF,getElem?_drop]at hc;exact hr i c hc aF
end Go.Ab
namespace Go.Ab
theorem eN{w:World}{b o:Nat}{c:Array Value}{e:TypeId}{f:Nat×Nat}(h:w.heap[b]? =some (.cells c e f)):w.cell? ⟨b,o,none⟩=c[o]? :=by
 simp[World.cell?,h]
theorem acw.congr{I I':du}{L L':Nat->Loc}{O O':List ad}{w w':World}{l:Loc}{e s:Nat}{xs:List AV}(h:acw I L O w l e s xs)
  (hb:w'.heap[l.bf]? =w.heap[l.bf]?) (hr:∀a x,R I L O a x->R I' L' O' a x):acw I' L' O' w' l e s xs:=by
 obtain⟨c,h1,h2,h3,h4,h5,h6⟩:=h;refine⟨c,by rw[hb];exact h1,h2,h3,h4,h5,λ i x hx=>⟨(h6 i x hx).1,λ j a ha=> ?_⟩⟩;obtain⟨y,hy,ho,ou⟩:=(h6 i x hx).2 j a ha;exact⟨y,hy,ho,hr _ _ ou⟩
theorem Good.refl{I:du}{L:Nat->Loc}{O:List ad}{w:World}(h:Inv I L O w):Good I L O w I L O w:=
 ⟨h,.refl _ _ _,.refl _ _,λ _ h=> .inl h,λ _ _ _ h=> .inl h⟩
theorem Good.trans{I I' I'':du}{L L' L'':Nat->Loc}{O O' nc:List ad}{w w' w'':World}(h:Good I L O w I' L' O' w')(k:Good I' L' O' w' I'' L'' nc w''):Good I L O w I'' L'' nc w'':=
 ⟨k.inv,h.ext.trans k.ext,h.pO.trans k.pO h.lb,λ b hb=>by
   rcases k.lb b hb with h1|h1
   ·exact h.lb b h1
   ·exact .inr (le_trans h.pO.size h1),λ b o x hx=>by
   rcases k.iP b o x hx with h1|h1|h1
   ·exact h.iP b o x h1
   ·exact .inr (h.lb b h1)
   ·exact .inr (.inr (le_trans h.pO.size h1))⟩
theorem Good.drawn{I:du}{L:Nat->Loc}{O:List ad}{w:World}(h:Inv I L O w)(k:Nat):Good I L O w I L O {w with drawn:=k}:=
 ⟨⟨h.kJ,h.obj,h.sep,h.dS,h.fix,h.bf,h.ow.ar λ _ _ _=>rfl,h.gh.step (λ _ _ h=>⟨h,rfl⟩) (λ _ _ h=>h) λ _ _=>rfl⟩,.refl _ _ _,⟨rfl,rfl,rfl,le_refl _,λ _ _ _=>rfl⟩,λ _ h=> .inl h,λ _ _ _ h=> .inl h⟩
theorem Inv.put{I:du}{L:Nat->Loc}{O O':List ad}{w w':World}{n:Nat}{l:Loc}{e s:Nat}{xs:List AV}(h:Inv I L O w)
  (hO:∀k:Nat,O'[k]? =if k=n then some (.live e s xs)else O[k]?) (hlen:O.length<=O'.length)
  (hw:∀b,b<w.heap.size->b≠l.bf->w'.heap[b]? =w.heap[b]?)
  (hos:w'.os=w.os) (an3:w'.tape=w.tape) (abj:w'.output=w.output) (afy:w.heap.size<=w'.heap.size)
  (hl:w.heap.size<=l.bf∨∃e s xs,O[n]? =some (.live e s xs)/\(L n).bf=l.bf)
  (kV:acw I L O w' l e s xs)
  (hold:n<O.length->(∃ys,O[n]? =some (.live e s ys)/\ys.length<=xs.length/\(ys.length=xs.length->l=L n))∨(O[n]? =some (.nil e s)/\xs≠[])):
  Good I L O w I (λ k=>if k=n then l else L k) O' w':=by
 have dt:Ext I L O I (λ k=>if k=n then l else L k) O':=by
  refine⟨λ _ _ _ h=>h,hlen,λ k hk e' s' iv hx=> ?_,λ k hk e' s' hx=> ?_,λ k hk a hx=> ?_,λ k hk a hx=> ?_⟩;rotate_left 2
  ·rw[hO]at hx;by_cases eK:k=n
   ·rw[if_pos eK]at hx;cases hx
   ·rw[if_neg eK]at hx;exact⟨⟨a,hx⟩,by simp only[if_neg eK]⟩
  ·rw[hO]at hx;by_cases eK:k=n
   ·rw[if_pos eK]at hx;cases hx
   ·rw[if_neg eK]at hx;exact⟨⟨a,hx,rfl⟩,by simp only[if_neg eK]⟩
  ·rw[hO]at hx;by_cases eK:k=n
   ·subst eK;rw[if_pos rfl]at hx;cases hx;rcases hold hk with⟨ys,h1,h2,h3⟩|h1
    ·exact .inl ⟨ys,h1,h2,λ he=>by simp[h3 he]⟩
    ·exact .inr h1
   ·rw[if_neg eK]at hx;exact .inl ⟨iv,hx,le_refl _,λ _=>by simp[eK]⟩
  ·rw[hO]at hx;by_cases eK:k=n
   ·rw[if_pos eK]at hx;cases hx
   ·rwa [if_neg eK]at hx
 have aF:∀{b o x},I b o=some x->b<w.heap.size/\b≠l.bf:=by
  intro b o x hx;have hb:=kL (h.kJ b o x hx);refine⟨hb,λ he=> ?_⟩;rcases hl with h1|⟨e',s',iv,h1,h2⟩
  ·omega
  ·have:=h.dS n e' s' iv o h1;rw[h2,←he,hx]at this;cases this
 have rF:∀{k:Nat} {e' s' iv},O[k]? =some (.live e' s' iv)->(L k).bf<w.heap.size:=by
  intro k e' s' iv hk;obtain⟨c,⟨lD,hc,dE⟩,_⟩:=h.obj k e' s' iv hk;exact(Array.getElem?_eq_some_iff.1 hc).1
 have bn:∀{k:Nat} {e' s' iv},O[k]? =some (.live e' s' iv)->k≠n->(L k).bf≠l.bf:=by
  intro k e' s' iv hk eK he;rcases hl with h1|⟨e'',s'',awW,h1,h2⟩
  ·have:=rF hk;omega
  ·exact eK (h.sep k n _ _ _ _ _ _ hk h1 (he.trans h2.symm))
 have hbk:∀b,b<w.heap.size->¬LB L O b->w'.heap[b]? =w.heap[b]? :=λ b hb hn=>by
  refine hw b hb λ he=> ?_
  rcases hl with h1|⟨e',s',iv,h1,h2⟩
  ·omega
  ·exact hn (.inl ⟨n,e',s',iv,h1,h2.trans he.symm⟩)
 have how:Own I (λ k=>if k=n then l else L k) O' w':=by
  refine h.ow.step (λ k a hk=> ?_) (λ b o v hv=> .inl ⟨o,v,hv⟩) (λ k e' s' iv hk=> ?_) λ b hb hn=> ?_
  ·rw[hO]at hk;by_cases eK:k=n
   ·rw[if_pos eK]at hk;cases hk
   ·rw[if_neg eK]at hk;exact⟨hk,if_neg eK⟩
  ·by_cases eK:k=n
   ·subst eK;simp only[if_true];rcases hl with h1|⟨e',s',iv,h1,h2⟩
    ·exact .inr h1
    ·exact .inl ⟨k,e',s',iv,h1,h2⟩
   ·rw[hO,if_neg eK]at hk;simp only[if_neg eK];exact .inl ⟨k,e',s',iv,hk,rfl⟩
  ·refine hw b hb λ he=> ?_
   rcases hl with h1|⟨e',s',iv,h1,h2⟩
   ·omega
   ·exact hn ⟨n,e',s',iv,h1,h2.trans he.symm⟩
 have hgh:Gh I (λ k=>if k=n then l else L k) O' w':=by
  refine h.gh.step (λ k g hk=> ?_) (λ a x hr=>hr.mono dt) λ b hb=> ?_
  ·rw[hO]at hk;by_cases eK:k=n
   ·rw[if_pos eK]at hk;cases hk
   ·rw[if_neg eK]at hk;exact⟨hk,by simp only[if_neg eK]⟩
  ·refine hw b hb.1 λ he=> ?_
   rcases hl with h1|⟨e',s',iv,h1,h2⟩
   ·have:=hb.1;omega
   ·obtain⟨c,⟨lD,hc,dE⟩,_⟩:=h.obj n e' s' iv h1;rw[h2,←he]at hc;exact hb.2 _ _ _ hc
 refine⟨⟨?_,?_,?_,?_,h.fix,h.uj hbk (λ _ _ _ h=>h),how,hgh⟩,dt,⟨hos,an3,abj,afy,?_⟩,?_,λ _ _ _ h=> .inl h⟩
 ·intro b o x hx;obtain⟨h1,h2⟩:=aF hx;rw[←h.kJ b o x hx];exact World.cell?_of_block (a:=⟨b,o,none⟩) (hw b h1 h2)
 ·intro k e' s' iv hk;rw[hO]at hk;by_cases eK:k=n
  ·subst eK;rw[if_pos rfl]at hk;cases hk;simp only[if_true];exact kV.congr rfl λ a x=>R.mono dt
  ·rw[if_neg eK]at hk;simp only[if_neg eK];exact(h.obj k e' s' iv hk).congr (hw _ (rF hk) (bn hk eK)) λ a x=>R.mono dt
 ·intro k m e1 s1 xs1 e2 s2 xs2 hk hm hb;rw[hO]at hk hm;by_cases eK:k=n<;>by_cases o6:m=n
  ·omega
  ·subst eK;simp only[if_true,if_neg o6]at hb hm;exact(bn hm o6 hb.symm).elim
  ·subst o6;simp only[if_true,if_neg eK]at hb hk;exact(bn hk eK hb).elim
  ·simp only[if_neg eK,if_neg o6]at hb hk hm;exact h.sep k m _ _ _ _ _ _ hk hm hb
 ·intro k e1 s1 xs1 o hk;rw[hO]at hk;by_cases eK:k=n
  ·subst eK;simp only[if_true];cases hx:I l.bf o with
   |none=>rfl
   |some x=>exact((aF hx).2 rfl).elim
  ·simp only[if_neg eK]at hk⊢;exact h.dS k _ _ _ o hk
 ·intro b hb hn;refine hw b hb λ he=> ?_
  rcases hl with h1|⟨e',s',iv,h1,h2⟩
  ·omega
  ·exact hn (.inl ⟨n,e',s',iv,h1,h2.trans he.symm⟩)
 ·rintro b (⟨k,e',s',iv,hk,hb⟩|⟨k,a,o,v,hk,hb⟩|⟨k,g,hk,hb⟩)
  rotate_right
  ·rw[hO]at hk;by_cases eK:k=n
   ·rw[if_pos eK]at hk;cases hk
   ·rw[if_neg eK]at hk;simp only[if_neg eK]at hb;exact .inl (.inr (.inr ⟨k,g,hk,hb⟩))
  rotate_left
  ·rw[hO]at hk;by_cases eK:k=n
   ·rw[if_pos eK]at hk;cases hk
   ·rw[if_neg eK]at hk;simp only[if_neg eK]at hb;exact .inl (.inr (.inl ⟨k,a,o,v,hk,hb⟩))
  rw[hO]at hk;by_cases eK:k=n
  ·subst eK;simp only[if_true]at hb;subst hb;rcases hl with h1|⟨e',s',iv,h1,h2⟩
   ·exact .inr h1
   ·exact .inl (.inl ⟨k,e',s',iv,h1,h2⟩)
  ·simp only[if_neg eK]at hk hb;exact .inl (.inl ⟨k,e',s',iv,hk,hb⟩)
theorem Inv.axW{I:du}{L:Nat->Loc}{O:List ad}{w:World}(h:Inv I L O w){e s:Nat}{xs:List AV}(c:Array Value)(cap:Nat){m:Nat×Nat}(hmk:Mk m c.size s)
  (hc:c.size=cap*s) (hx:xs.length<=cap) (hm:cap<=maxLen) (hs:0<s)
  (hr:∀(i:Nat) x,xs[i]? =some x->x.cells.length=s/\∀(j:Nat) a,x.cells[j]? =some a->∃y,c[i*s+j]? =some y/\y.oneCell'=true/\R I L O a y):
  Good I L O w I (λ k=>if k=O.length then Loc.at w.heap.size (cap)else L k) (O++ [.live e s xs]) (w.alloc (.cells c e m)):=by
 refine h.put (n:=O.length) (l:=Loc.at w.heap.size (cap)) (e:=e) (s:=s) (xs:=xs) (w':=w.alloc (.cells c e m)) ?_ (by simp) ?_ rfl rfl rfl (by simp) (.inl (le_refl _)) ?_ (by omega)
 ·intro k;by_cases hk:k=O.length
  ·subst hk;simp
  ·rw[if_neg hk,List.getElem?_append]
   split
   ·rfl
   ·rw[getElem?_eq_none (by simp;omega),getElem?_eq_none (by omega)]
 ·intro b hb _;exact heap_alloc_old w _ b hb
 ·exact⟨c,⟨_,heap_alloc_new w _,hmk⟩,hc,hx,hm,hs,hr⟩
theorem Inv.new{I:du}{L:Nat->Loc}{O:List ad}{w:World}(h:Inv I L O w){e s:Nat}{xs:List AV}(c:Array Value)(cap:Nat)
 (hc:c.size=cap*s) (hx:xs.length<=cap) (hm:cap<=maxLen) (hs:0<s)
 (hr:∀(i:Nat) x,xs[i]? =some x->x.cells.length=s/\∀(j:Nat) a,x.cells[j]? =some a->∃y,c[i*s+j]? =some y/\y.oneCell'=true/\R I L O a y):
 Good I L O w I (λ k=>if k=O.length then Loc.at w.heap.size (cap)else L k) (O++ [.live e s xs]) (w.alloc (.cells c e)):=h.axW c cap (.inl rfl) hc hx hm hs hr
end Go.Ab
namespace Go.Ab
def fD(P:Program)(I:du)(L:Nat->Loc)(O:List ad)(w:World)(s:Sem Next)(K:AV->List ad->Prop):Prop:=
 ∃x O' y I' L' w',K x O'/\Good I L O w I' L' O' w'/\R I' L' O' x y/\(s.run P w= .ok (.value y) w'∨(s.run P w= .ok .skip w'/\y=undef))
section
variable {P:Program} {I:du} {L:Nat->Loc} {O:List ad} {w:World} {K:AV->List ad->Prop}
theorem fD.same(h:Inv I L O w){s:Sem Next}{x:AV}{y:Value}(hk:K x O)(hr:R I L O x y)(hs:s.run P w= .ok (.value y) w):fD P I L O w s K:=
 ⟨x,O,y,I,L,w,hk,.refl h,hr,.inl hs⟩
theorem R.bool{x:Value}{b:Bool}(h:R I L O (.v (.bool b)) x):x= .bool b:=by cases h;rfl
theorem R.exact{x y:Value}(h:R I L O (.v y) x):x=y:=by cases h;rfl
theorem amw{op:BinOp}{x y z:Value}(h:lC op x y=some z)(t:TypeId)(a b:Operand)(w:World):
  (do eqGuard op t a b x y;binOp op t x y:Sem Value).run P w= .ok z w/\z.oneCell'=true:=by
 unfold lC at h
 split at h
 ·rename_i k a' k' b'
  split at h
  ·cases op<;>simp[BinOp.eF]at* <;>simp only[aiY]at h<;>split at h<;>simp at h<;>rename_i hh<;>subst h<;>
    simp[eqGuard,binOp,Op.shift,Int.not_lt.2 hh,Value.oneCell']
  ·split at h
   ·rename_i hk;subst hk;cases op<;>simp[BinOp.eF]at* <;>simp only[rE]at h
    case quo=>split at h<;>simp at h;rename_i hh;subst h;simp[eqGuard,binOp,Op.intDiv,hh,Value.oneCell']
    case rem=>split at h<;>simp at h;rename_i hh;subst h;simp[eqGuard,binOp,Op.intDiv,hh,Value.oneCell']
    all_goals (simp at h)
    all_goals (subst h;simp[eqGuard,binOp,Op.intArith,Op.intBits,Op.intCmp,Value.oneCell'])
   ·cases h
 ·rename_i a' b';cases op<;>simp only[abz]at h
  case add=>
   split at h<;>simp at h
   rename_i hh;subst h;have h2:¬((a'.size:Int)+(b'.size:Int)>IntKind.i64.max):=by have:=hh;push_cast at this;omega
   simp[eqGuard,binOp,Op.stringOp,Value.oneCell'];have h3:IntKind.i64.max=9223372036854775807:=by decide
   omega
  all_goals first
   |(simp at h;done)
   |(simp only[Option.some.injEq]at h;subst h;simp[eqGuard,binOp,Op.stringOp,Value.oneCell'])
 ·cases h
theorem aqd{op:UnOp}{x z:Value}(h:sun op x=some z)(w:World):(Op.unary op x).run P w= .ok z w/\z.oneCell'=true:=by
 unfold sun at h
 split at h<;>cases h<;>simp[Op.unary,Op.intArith,Value.oneCell']
end
end Go.Ab
namespace Go.Ab
theorem zY(vs:List (Value×Nat))(off:Nat)(cells:Array Value):
  (vs.foldl (λ cs (p:Value×Nat)=>cs.setIfInBounds (off+p.2) p.1) cells).size=cells.size:=by
 induction vs generalizing cells with
 |nil=>rfl
 |cons a l ih=>simp[ih]
theorem abm(vs:List Value)(off:Nat):∀(k:Nat) (cells:Array Value),off+k+vs.length<=cells.size->∀j:Nat,
  ((vs.zipIdx k).foldl (λ cs (p:Value×Nat)=>cs.setIfInBounds (off+p.2) p.1) cells)[j]? =if off+k<=j/\j<off+k+vs.length then vs[j- (off+k)]? else cells[j]? :=by
 induction vs with
 |nil=>
  intro k cells h j;rw[if_neg (by simp only[List.length_nil];omega)];rfl
 |cons a l ih=>
  intro k cells h j;simp only[List.zipIdx_cons,List.foldl_cons,List.length_cons]at h⊢;rw[ih (k+1) _ (by simp;omega)];by_cases h1:off+(k+1)<=j/\j<off+(k+1)+l.length
  ·rw[if_pos h1,if_pos (by omega)];rw[show j- (off+k)=(j- (off+(k+1)))+1 by omega,List.getElem?_cons_succ]
  ·rw[if_neg h1,Array.getElem?_setIfInBounds];by_cases h2:off+k=j
   ·subst h2;rw[if_pos rfl,if_pos (by omega),if_pos (by omega)];simp
   ·rw[if_neg h2,if_neg (by omega)]
def lay(off:Nat)(vs:List Value)(cells:Array Value):Array Value:=(vs.zipIdx.foldl (λ cs (p:Value×Nat)=>cs.setIfInBounds (off+p.2) p.1) cells)
theorem zd(off:Nat)(vs:List Value)(cells:Array Value):(lay off vs cells).size=cells.size:=zY _ _ _
theorem adn{off:Nat}{vs:List Value}{cells:Array Value}(h:off+vs.length<=cells.size)(j:Nat):
  (lay off vs cells)[j]? =if off<=j/\j<off+vs.length then vs[j- off]? else cells[j]? :=by
 have:=abm vs off 0 cells (by omega) j;simpa [lay]using this
theorem acg{place:Nat->Option (Nat×Nat)}{cells:Array Value}{i off size:Nat}{v:Value}{rest:List (Nat×Value)}(hp:place i=some (off,size))(hs:v.cells.size=size)(hf:off+size<=cells.size):
  Instr.fill place cells ((i,v)::rest)=Instr.fill place (lay off v.cells.toList cells) rest:=by
 rw[Instr.fill,hp];simp only[hs,ne_eq,not_true_eq_false,decide_false,Bool.false_or,decide_eq_true_eq];rw[if_neg (by omega)];congr 1;rw[lay,←Array.foldl_toList,Array.toList_zipIdx]
section
variable {P:Program} {I:du} {L:Nat->Loc} {O:List ad} {w:World}
def RCs(I:du)(L:Nat->Loc)(O:List ad)(cs:List AV)(vs:Array Value):Prop:=
 cs.length=vs.size/\∀(j:Nat) c y,cs[j]? =some c->vs[j]? =some y->R I L O c y
theorem RCs.lay{cs:List AV}{vs:Array Value}(h:RCs I L O cs vs){x:AV}{y:Value}(hr:R I L O x y)(hx:(x.cg||x.isAgg)=true){off:Nat}(hf:off+x.cells.length<=cs.length):
  RCs I L O (cs.take off++x.cells++cs.drop (off+x.cells.length)) (lay off y.cells.toList vs)/\y.cells.size=x.cells.length:=by
 obtain⟨h1,h2⟩:=hr.cells hx;have hlen:y.cells.toList.length=x.cells.length:=by simp[h1]
 refine⟨⟨by rw[zd];simp[←h.1];omega,λ j c z hc hz=> ?_⟩,h1.symm⟩;rw[adn (by rw[hlen,←h.1];exact hf),hlen]at hz;by_cases hj:off<=j/\j<off+x.cells.length
 ·rw[if_pos hj]at hz
  have gf:x.cells[j- off]? =some c:=by
   rw[append_assoc,getElem?_append_right (by simp;omega),getElem?_append_left (by simp;omega)]at hc;rwa [length_take,min_eq_left (by omega)]at hc
  obtain⟨y',lN,ou⟩:=h2 _ c gf;rw[Array.getElem?_toList,lN]at hz;cases hz;exact ou
 ·rw[if_neg hj]at hz
  have gf:cs[j]? =some c:=by
   by_cases aF:j<off
   ·rwa [append_assoc,getElem?_append_left (by simp;omega),getElem?_take,if_pos aF]at hc
   ·rw[getElem?_append_right (by simp;omega),getElem?_drop]at hc;rw[←hc];congr 1;simp;omega
  exact h.2 j c z gf hz
end
end Go.Ab
namespace Go.Ab
section
variable {P:Program} {I:du} {L:Nat->Loc} {O:List ad} {w:World} {K:AV->List ad->Prop} {e:Env} {a:Act}
theorem wq{xs:List Operand}{as:List aI}(h:xs.mapM bH=some as)(he:∀t,R I L O (e t) (a.tmps.getD t undef)):
  RL I L O (as.map (aI.ev e)) (xs.map a.eval).toArray:=by
 obtain⟨h1,h2⟩:=mapM_some h;refine⟨by simp[h1],λ i c x hc hx=> ?_⟩;simp only[List.getElem?_map,map_eq_some_iff]at hc;obtain⟨o,ho,rfl⟩:=hc;simp only[getElem?_toArray,List.getElem?_map,map_eq_some_iff]at hx;obtain⟨q,hq,rfl⟩:=hx;exact aq (h2 i q o hq ho) he
theorem e8{t s b:Nat}{z:AV}(h:m7 P t=some (s,b,z)):
  ∃i z0,P.info? t=some i/\i.zero=some z0/\alS z0=some z/\i.size=s/\i.bytes=b/\z.cells.length=s/\0<s/\z0.cells.size=s/\z.storable=true:=by
 unfold m7 at h;simp only[bind_eq_bind,bind_eq_some_iff]at h;obtain⟨i,hi,z0,hz,a,ha,h⟩:=h
 split at h<;>simp at h
 rename_i hh;obtain⟨rfl,rfl,rfl⟩:=h;exact⟨i,z0,hi,hz,ha,rfl,rfl,hh.1,hh.2.1,hh.2.2.1,hh.2.2.2⟩
theorem Inv.box(hi:Inv I L O w){x:AV}{y:Value}(t:Nat){s:Nat}(hr:R I L O x y)(hs:x.storable=true)(hl:x.cells.length=s)(h0:0<s):
  Good I L O w I (λ k=>if k=O.length then Loc.at w.heap.size (1)else L k) (O++ [.live t s [x]]) (w.alloc (.cells y.cells t))/\
  R I (λ k=>if k=O.length then Loc.at w.heap.size (1)else L k) (O++ [.live t s [x]]) (.ptr O.length 1 0 0) (.pointer (some ⟨w.heap.size,0,none⟩)):=by
 obtain⟨h1,h2⟩:=hr.qG hs;refine⟨hi.new y.cells 1 (by omega) (by simp) (by simp[maxLen]) h0 λ i z hz=> ?_,?_⟩
 ·cases i with
  |zero=>
   simp at hz;subst hz;exact⟨hl,λ j c hj=>by simpa using h2 j c hj⟩
  |succ i=>simp at hz
 ·have:=R.dV (I:=I) (L:=λ k=>if k=O.length then Loc.at w.heap.size (1)else L k) (O:=O++ [.live t s [x]]) O.length 1 0 0 t s [x] (by simp) rfl;simpa using this
theorem uh{fs:Array Field}(he:∀t,R I L O (e t) (a.tmps.getD t undef)){M:AV->Prop}:
  ∀(parts:List (Nat×Operand)) (ps:List (Nat×Nat×aI)) (z:List AV) (vs:Array Value),RCs I L O z vs->
  (parts.mapM λ (p:Nat×Operand)=>do let f ←fs[p.1]?;let n ←P.info? f.type;some (f.offset,n.size,←bH p.2))=some ps->
  jy e z ps M->∃zs nV,M (.agg zs)/\RCs I L O zs nV/\
   ∀pl:Nat->Option (Nat×Nat),(∀i f n,fs[i]? =some f->P.info? f.type=some n->pl i=some (f.offset,n.size))->
    Instr.fill pl vs (parts.map λ (p:Nat×Operand)=>(p.1,a.eval p.2))=some nV
 | [],ps,z,vs,hz,hp,hk=>by
   simp at hp;subst hp;exact⟨z,vs,hk,hz,λ pl _=>rfl⟩
 |(i,x)::parts,ps,z,vs,hz,hp,hk=>by
  simp only[mapM_cons,bind_eq_bind,pure_def,bind_eq_some_iff,Option.some.injEq]at hp;obtain⟨q,⟨f,hf,n,hn,ax,hx,rfl⟩,qs,hqs,rfl⟩:=hp;obtain⟨h1,h2,h3,h4⟩:=hk;have hr:=aq hx he;obtain⟨hz',qp⟩:=hz.lay hr h2 (off:=f.offset) (by omega);rw[h1]at hz';obtain⟨zs,nV,m1,m2,m3⟩:=uh he parts qs _ _ hz' hqs h4;refine⟨zs,nV,m1,m2,λ pl uw=> ?_⟩;rw[List.map_cons,acg (uw i f n hf hn) (qp.trans h1) (by rw[←hz.1];omega)];exact m3 pl uw
end
end Go.Ab
namespace Go.Ab
def ft(I:du)(L:Nat->Loc)(O:List ad)(s:Nat)(xs:List AV)(c:Array Value):Prop:=
 ∀(i:Nat) x,xs[i]? =some x->x.cells.length=s/\∀(j:Nat) a,x.cells[j]? =some a->∃y,c[i*s+j]? =some y/\y.oneCell'=true/\R I L O a y
theorem adL{i j s n:Nat}(hi:i<n)(hj:j<s):i*s+j<n*s:=by
 calc i*s+j<i*s+s:=by omega
  _=(i+1)*s:=by rw[add_mul,Nat.one_mul]
  _<=n*s:=mul_le_mul_right s hi
theorem anV{i i' j s:Nat}(hj:j<s)(h:i≠i'):¬(i'*s<=i*s+j/\i*s+j<i'*s+s):=by
 intro⟨h1,h2⟩;rcases Nat.lt_or_gt_of_ne h with h3|h3
 ·have:=mul_le_mul_right s (show i+1<=i' from h3);rw[add_mul]at this;omega
 ·have:=mul_le_mul_right s (show i'+1<=i from h3);rw[add_mul]at this;omega
section
variable {P:Program} {I:du} {L:Nat->Loc} {O:List ad} {w:World} {K:AV->List ad->Prop} {e:Env} {a:Act}
theorem ft.made{z:AV}{z0:Value}{s n cap:Nat}(hz:R I L O z z0)(hs:z.storable=true)(hl:z.cells.length=s)(h0:0<s)(hn:n<=cap):
  ft I L O s (List.replicate n z) ((Array.range (cap*s)).map (z0.cells[·%z0.cells.size]!)):=by
 obtain⟨h1,h2⟩:=hz.qG hs;intro i x hx;rw[List.getElem?_replicate]at hx
 split at hx<;>simp at hx
 rename_i hi;subst hx;refine⟨hl,λ j c hj=> ?_⟩;obtain⟨y,hy,ho,hr⟩:=h2 j c hj;have hjs:j<s:=by rw[←hl];exact(List.getElem?_eq_some_iff.1 hj).1
 have aF:i*s+j<cap*s:=adL (by omega) hjs
 have aBS:(i*s+j)%z0.cells.size=j:=by
  rw[←h1,hl,Nat.add_comm,Nat.add_mul_mod_self_right,Nat.mod_eq_of_lt hjs]
 refine⟨y,?_,ho,hr⟩;rw[Array.getElem?_map,Array.getElem?_range];simp only[aF,if_true,map_some,aBS];obtain⟨nh,he⟩:=Array.getElem?_eq_some_iff.1 hy;rw[←he,getElem!_pos z0.cells j nh]
theorem ft.lay{xs:List AV}{c:Array Value}{s:Nat}(h:ft I L O s xs c)(hc:xs.length*s<=c.size){x:AV}{y:Value}(hr:R I L O x y)(hs:x.storable=true)(hl:x.cells.length=s){i:Nat}(hi:i<xs.length):
  ft I L O s (xs.set i x) (lay (i*s) y.cells.toList c)/\y.cells.size=s:=by
 obtain⟨h1,h2⟩:=hr.qG hs;have hlen:y.cells.toList.length=s:=by simp;omega
 have ko:i*s+s<=c.size:=by
  have:=mul_le_mul_right s (show i+1<=xs.length from hi);rw[add_mul]at this;omega
 refine⟨λ k z hz=> ?_,by omega⟩;rw[List.getElem?_set]at hz;by_cases hk:i=k
 ·subst hk;rw[if_pos rfl,if_pos hi]at hz;cases hz;refine⟨hl,λ j d hj=> ?_⟩;obtain⟨v,hv,ho,hrv⟩:=h2 j d hj;have hjs:j<s:=by rw[←hl];exact(List.getElem?_eq_some_iff.1 hj).1
  refine⟨v,?_,ho,hrv⟩;rw[adn (by omega),if_pos (by omega)];simpa using hv
 ·rw[if_neg hk]at hz;obtain⟨h3,h4⟩:=h k z hz;refine⟨h3,λ j d hj=> ?_⟩;obtain⟨v,hv,ho,hrv⟩:=h4 j d hj;have hjs:j<s:=by rw[←h3];exact(List.getElem?_eq_some_iff.1 hj).1
  refine⟨v,?_,ho,hrv⟩;rw[adn (by omega),hlen,if_neg (anV hjs (λ h=>hk h.symm))];exact hv
theorem sx(he:∀t,R I L O (e t) (a.tmps.getD t undef)){s:Nat}{M:List AV->Prop}:
  ∀(parts:List (Nat×Operand)) (ps:List (Nat×aI)) (xs:List AV) (c:Array Value),ft I L O s xs c->c.size=xs.length*s->
  (parts.mapM λ (p:Nat×Operand)=>do some (p.1,←bH p.2))=some ps->
  nM e s xs ps M->∃iv c',M iv/\ft I L O s iv c'/\iv.length=xs.length/\c'.size=c.size/\
   Instr.fill (λ i=>some (i*s,s)) c (parts.map λ (p:Nat×Operand)=>(p.1,a.eval p.2))=some c'
 | [],ps,xs,c,hx,hc,hp,hk=>by
   simp at hp;subst hp;exact⟨xs,c,hk,hx,rfl,rfl,rfl⟩
 |(i,x)::parts,ps,xs,c,hx,hc,hp,hk=>by
  simp only[mapM_cons,bind_eq_bind,pure_def,bind_eq_some_iff,Option.some.injEq]at hp;obtain⟨q,⟨ax,hax,rfl⟩,qs,hqs,rfl⟩:=hp;obtain⟨h1,h2,h3,h4⟩:=hk;have hr:=aq hax he;obtain⟨oH,qp⟩:=hx.lay (by omega) hr h2 h1 h3
  have ko:i*s+s<=c.size:=by
   have:=mul_le_mul_right s (show i+1<=xs.length from h3);rw[add_mul]at this;omega
  obtain⟨iv,c',m1,m2,m3,m4,m5⟩:=sx he parts qs _ _ oH (by rw[zd];simpa using hc) hqs h4;refine⟨iv,c',m1,m2,by simpa using m3,by rw[m4,zd],?_⟩;rw[List.map_cons,acg rfl qp ko];exact m5
end
end Go.Ab
namespace Go.Ab
section
variable {P:Program} {I:du} {L:Nat->Loc} {O:List ad} {w:World} {K:AV->List ad->Prop} {e:Env} {a:Act}
theorem aqf{y:AV}{v:Value}(hi:Inv I L O w)(hr:R I L O y v){M:List AV->Prop}(h:sn O y M):
  ∃ys ya c,M ys/\v= .slice ya ys.length c/\∀s,(∀x∈ys,x.cells.length=s)->ys≠[]->∃b o,ya=some ⟨b,o,none⟩/\
   ∀(i:Nat) x,ys[i]? =some x->∀(j:Nat) d,x.cells[j]? =some d->∃u,w.cell? ⟨b,o+(i*s+j),none⟩=some u/\u.oneCell'=true/\R I L O d u:=by
 unfold sn at h
 split at h
 ·cases hr;exact⟨[],none,0,h,rfl,λ s _ h=>(h rfl).elim⟩
 ·rename_i ys;cases hr with
  |mq ya cap=>exact⟨[],ya,cap,h,rfl,λ s _ h=>(h rfl).elim⟩
  |sl _ bf off cap s bz h1 h2 h3 h4 h5=>
   refine⟨ys,_,cap,h,rfl,λ s' hs' bn=>⟨bf,off,rfl,λ i x hx j d hj=> ?_⟩⟩;have hss:s=s':=by rw[←h3 i x hx,hs' x (mem_of_getElem? hx)]
   subst hss;obtain⟨h6,h7⟩:=h4 i x j d hx hj;exact⟨bz i j,by rw[←add_assoc];exact hi.kJ _ _ _ h6,h7,h5 i x j d hx hj⟩
 ·rename_i n len
  split at h
  ·rename_i t s0 xs hn;obtain⟨rfl,h⟩:=h;have hv:=hr.eu hn rfl;subst hv
   ·refine⟨xs,_,_,h,rfl,λ s hs bn=>⟨_,0,rfl,λ i x hx j d hj=> ?_⟩⟩;obtain⟨c,⟨lD,h1,dE⟩,h2,h3,h4,h5,h6⟩:=hi.obj n t s0 xs hn;obtain⟨h7,h8⟩:=h6 i x hx;have hss:s0=s:=by rw[←h7,hs x (mem_of_getElem? hx)]
    subst hss;obtain⟨u,hu,ho,hru⟩:=h8 j d hj;exact⟨u,by rw[zero_add,eN h1];exact hu,ho,hru⟩
  ·rename_i t s0 hn;obtain⟨rfl,h⟩:=h;obtain⟨rfl,_⟩:=hr.kR hn;exact⟨[],none,0,h,rfl,λ s _ h=>(h rfl).elim⟩
  ·exact h.elim
 ·exact h.elim
def dC(w:World)(b o n:Nat):List Value:=(List.range n).map λ k=>(w.cell? ⟨b,o+k,none⟩).getD undef
theorem aj0{k n s:Nat}(h:k<n*s):k/s<n/\k%s<s/\k/s*s+k%s=k:=by
 have hs:0<s:=by rcases Nat.eq_zero_or_pos s with rfl|h0;simp at h;exact h0
 exact⟨(Nat.div_lt_iff_lt_mul hs).2 h,Nat.mod_lt _ hs,by rw[Nat.mul_comm];exact Nat.div_add_mod k s⟩
theorem nA{ys:List AV}{s b o:Nat}(hs:∀x∈ys,x.cells.length=s)
  (h:∀(i:Nat) x,ys[i]? =some x->∀(j:Nat) d,x.cells[j]? =some d->∃u,w.cell? ⟨b,o+(i*s+j),none⟩=some u/\u.oneCell'=true/\R I L O d u):
  (dC w b o (ys.length*s)).length=ys.length*s/\
  (∀(j:Nat) u,(dC w b o (ys.length*s))[j]? =some u->w.cell? ((⟨b,o,none⟩:Addr).add j)=some u)/\
  (∀u∈dC w b o (ys.length*s),u.oneCell'=true)/\
  ft I L O s ys (dC w b o (ys.length*s)).toArray:=by
 have ck:∀k,k<ys.length*s->∃u,w.cell? ⟨b,o+k,none⟩=some u/\u.oneCell'=true/\(dC w b o (ys.length*s))[k]? =some u:=by
  intro k hk;obtain⟨h1,h2,h3⟩:=aj0 hk;have hx:ys[k/s]? =some ys[k/s]:=by simp[h1]
  have hl:=hs _ (mem_of_getElem? hx);obtain⟨u,hu,ho,_⟩:=h _ _ hx (k%s) (ys[k/s].cells[k%s]'(by omega)) (by simp[hl,h2]);rw[h3]at hu;refine⟨u,hu,ho,?_⟩;simp[dC,hk,hu]
 refine⟨by simp[dC],λ j u hu=> ?_,λ u hu=> ?_,λ i x hx=>⟨hs x (mem_of_getElem? hx),λ j d hj=> ?_⟩⟩
 ·have hj:j<ys.length*s:=by have:=(List.getElem?_eq_some_iff.1 hu).1;simpa [dC]using this
  obtain⟨u',h1,h2,h3⟩:=ck j hj;rw[h3]at hu;cases hu;rw[add_lit];exact h1
 ·obtain⟨j,hj⟩:=List.getElem?_of_mem hu;have hjl:j<ys.length*s:=by have:=(List.getElem?_eq_some_iff.1 hj).1;simpa [dC]using this
  obtain⟨u',h1,h2,h3⟩:=ck j hjl;rw[h3]at hj;cases hj;exact h2
 ·obtain⟨u,hu,ho,hr⟩:=h i x hx j d hj;have aF:i*s+j<ys.length*s:=adL (List.getElem?_eq_some_iff.1 hx).1 (by rw[←hs x (mem_of_getElem? hx)];exact(List.getElem?_eq_some_iff.1 hj).1);refine⟨u,?_,ho,hr⟩;simp[dC,aF,hu]
theorem ft.append{s:Nat}{xs ys:List AV}{c d:Array Value}(hx:ft I L O s xs c)(hy:ft I L O s ys d)(r:List Value)(ae3:List Value)
  (ho:ae3.length=xs.length*s) (hoc:∀(k:Nat),k<xs.length*s->ae3[k]? =c[k]?):
  ft I L O s (xs++ys) (ae3++d.toList++r).toArray:=by
 intro i x hi;by_cases h:i<xs.length
 ·rw[getElem?_append_left h]at hi;obtain⟨h1,h2⟩:=hx i x hi;refine⟨h1,λ j u hj=> ?_⟩;obtain⟨y,lN,ho',hr⟩:=h2 j u hj;have hjs:j<s:=by rw[←h1];exact(List.getElem?_eq_some_iff.1 hj).1
  have aF:i*s+j<xs.length*s:=adL h hjs;refine⟨y,?_,ho',hr⟩;simp only[getElem?_toArray];rw[append_assoc,getElem?_append_left (by omega),hoc _ aF,lN]
 ·rw[getElem?_append_right (by omega)]at hi;obtain⟨h1,h2⟩:=hy _ x hi;refine⟨h1,λ j u hj=> ?_⟩;obtain⟨y,lN,ho',hr⟩:=h2 j u hj
  have he:i*s+j=xs.length*s+((i- xs.length)*s+j):=by
   rw[←add_assoc,←add_mul];congr 2;omega
  have aF:(i- xs.length)*s+j<d.toList.length:=by
   have:=(Array.getElem?_eq_some_iff.1 lN).1;simpa using this
  refine⟨y,?_,ho',hr⟩;simp only[getElem?_toArray];rw[append_assoc,he,getElem?_append_right (by omega),ho,Nat.add_sub_cancel_left,getElem?_append_left aF,Array.getElem?_toList,lN]
end
end Go.Ab
namespace Go.Ab
section
variable {P:Program} {I:du} {L:Nat->Loc} {O:List ad} {w:World} {K:AV->List ad->Prop} {e:Env} {a:Act}
theorem qL{t ty el:TypeId}{i:TypeInfo}(ht:P.underlying t=some (.slice el))(hi:P.info? el=some i)(b y:Option Addr)(n cap c:Nat)(hn:n<=cap)(w:World):
  (Builtin.append_ #[t,t] ty #[.slice b n cap,.slice y 0 c]).run P w= .ok (.slice b n cap) w:=by
 have hf:(Builtin.firstCells i.size 0 (.slice y 0 c)).run P w= .ok #[] w:=by
  cases y with
  |none=>simp[Builtin.firstCells]
  |some y=>have:=run_firstCells_some (P:=P) w i.size 0 y 0 c [] (by simp) (by simp);simpa using this
 cases b<;>simp[Builtin.append_,run_underlying ht,sizeOf,typeInfo,hi,Builtin.lenOf,hn,hf,storeCells]
theorem lX{n:Nat}(hn:n<O.length)(o:ad)(k:Nat):(O.set n o)[k]? =if k=n then some o else O[k]? :=by
 rw[List.getElem?_set];by_cases hk:n=k
 ·subst hk;simp[hn]
 ·rw[if_neg hk,if_neg (λ h=>hk h.symm)]
theorem ft.kF{s:Nat}{xs:List AV}{r:List Value}{d z:Array Value}(h:ft I L O s xs (r++d.toList++z.toList).toArray):ft I L O s xs (r.toArray++d++z):=by
 intro i x hx;obtain⟨q1,q2⟩:=h i x hx;refine⟨q1,λ j d' hj=> ?_⟩;obtain⟨u,hu,ho,hr⟩:=q2 j d' hj;exact⟨u,by rw[←hu];congr 1;apply Array.ext';simp,ho,hr⟩
theorem asn{t ty el:Nat}{i:TypeInfo}{z0:Value}(ht:P.underlying t=some (.slice el))(hi:P.info? el=some i)(hz:i.zero=some z0)(h0:0<i.size)(zF:z0.cells.size=i.size)
  (hinv:Inv I L O w) {ys:List AV} {b o c:Nat} (hs:∀x∈ys,x.cells.length=i.size) (bn:ys≠[])
  (hc:∀(k:Nat) x,ys[k]? =some x->∀(j:Nat) d,x.cells[j]? =some d->∃u,w.cell? ⟨b,o+(k*i.size+j),none⟩=some u/\u.oneCell'=true/\R I L O d u)
  (o7:ys.length*i.bytes<=140737488355328) (j0:ys.length<=maxLen):
  ∃y' I' L' w',Good I L O w I' L' (O++ [.live el i.size ys]) w'/\R I' L' (O++ [.live el i.size ys]) (.row O.length ys.length) y'/\
   (Builtin.append_ #[t,t] ty #[.slice none 0 0,.slice (some ⟨b,o,none⟩) ys.length c]).run P w= .ok y' w':=by
 obtain⟨h1,h2,h3,h4⟩:=nA hs hc;have sQ:0<ys.length:=List.length_pos_iff.2 bn;have hm:ys.length<=9223372036854775807:=by simpa [maxLen]using j0
 have bo:=run_append_nil (P:=P) w t ty el i z0 ht hi hz ⟨b,o,none⟩ ys.length c (dC w b o (ys.length*i.size)) h1 h2 sQ (by omega) (by omega);have hge:=grownCap_ge w ys.length 0 el;have hle:=grownCap_le_maxLen w ys.length 0 el j0;generalize grownCap w ys.length 0 el=cap at*;have dY:=(Good.drawn hinv (w.drawn+1));have dm:=ft.append (I:=I) (L:=L) (O:=O) (s:=i.size) (xs:=[]) (ys:=ys) (c:= #[]) (d:=(dC w b o (ys.length*i.size)).toArray) (λ i x hx=>by simp at hx) h4 (Builtin.zeroCells z0.cells (cap- ys.length)).toList [] (by simp) (by simp)
 have dM:=dY.inv.new (e:=el) (s:=i.size) (xs:=ys) ((dC w b o (ys.length*i.size)).toArray++Builtin.zeroCells z0.cells (cap- ys.length)) cap
  (by rw[Array.size_append,size_zeroCells,zF];simp only[size_toArray,h1];rw[←add_mul];congr 1;omega) hge hle h0 (by
   have:ft I L O i.size ys ((dC w b o (ys.length*i.size)).toArray++Builtin.zeroCells z0.cells (cap- ys.length)):=by simpa using ft.kF dm
   exact this)
 refine⟨_,_,_,_,dY.trans dM,?_,bo⟩;have:=R.cf (I:=I) (L:=λ k=>if k=O.length then Loc.at w.heap.size (cap)else L k) (O:=O++ [.live el i.size ys]) O.length ys.length el i.size ys (by simp) rfl;simpa using this
theorem alQ{t ty el:Nat}{i:TypeInfo}{z0:Value}(ht:P.underlying t=some (.slice el))(hi:P.info? el=some i)(hz:i.zero=some z0)(h0:0<i.size)(zF:z0.cells.size=i.size)
  (hinv:Inv I L O w) {n:Nat} (hn:O[n]? =some (.nil el i.size)) {ys:List AV} {b o c:Nat} (hs:∀x∈ys,x.cells.length=i.size) (bn:ys≠[])
  (hc:∀(k:Nat) x,ys[k]? =some x->∀(j:Nat) d,x.cells[j]? =some d->∃u,w.cell? ⟨b,o+(k*i.size+j),none⟩=some u/\u.oneCell'=true/\R I L O d u)
  (o7:ys.length*i.bytes<=140737488355328) (j0:ys.length<=maxLen):
  ∃y' I' L' w',Good I L O w I' L' (O.set n (.live el i.size ys)) w'/\R I' L' (O.set n (.live el i.size ys)) (.row n ys.length) y'/\
   (Builtin.append_ #[t,t] ty #[.slice none 0 0,.slice (some ⟨b,o,none⟩) ys.length c]).run P w= .ok y' w':=by
 have ng:n<O.length:=(List.getElem?_eq_some_iff.1 hn).1;obtain⟨h1,h2,h3,h4⟩:=nA hs hc;have sQ:0<ys.length:=List.length_pos_iff.2 bn;have hm:ys.length<=9223372036854775807:=by simpa [maxLen]using j0
 have bo:=run_append_nil (P:=P) w t ty el i z0 ht hi hz ⟨b,o,none⟩ ys.length c (dC w b o (ys.length*i.size)) h1 h2 sQ (by omega) (by omega);have hge:=grownCap_ge w ys.length 0 el;have hle:=grownCap_le_maxLen w ys.length 0 el j0;generalize grownCap w ys.length 0 el=cap at*;have dY:=(Good.drawn hinv (w.drawn+1));have dm:=ft.append (I:=I) (L:=L) (O:=O) (s:=i.size) (xs:=[]) (ys:=ys) (c:= #[]) (d:=(dC w b o (ys.length*i.size)).toArray) (λ i x hx=>by simp at hx) h4 (Builtin.zeroCells z0.cells (cap- ys.length)).toList [] (by simp) (by simp)
 have dM:=dY.inv.put (n:=n) (l:=Loc.at w.heap.size (cap)) (e:=el) (s:=i.size) (xs:=ys) (O':=O.set n (.live el i.size ys))
  (w':=w.drew.alloc (.cells ((dC w b o (ys.length*i.size)).toArray++Builtin.zeroCells z0.cells (cap- ys.length)) el))
  (lX ng _) (by simp) (λ b' lP _=>heap_alloc_old w.drew _ b' lP) rfl rfl rfl (by rw[World.size_alloc];exact le_succ _) (.inl (le_refl _))
  ⟨_,⟨_,heap_alloc_new w.drew _,.inl rfl⟩,by rw[Array.size_append,size_zeroCells,zF];simp only[size_toArray,h1];rw[←add_mul];congr 1;omega,hge,hle,h0,by
    have:ft I L O i.size ys ((dC w b o (ys.length*i.size)).toArray++Builtin.zeroCells z0.cells (cap- ys.length)):=by simpa using ft.kF dm
    exact this⟩
  (λ _=> .inr ⟨hn,bn⟩)
 refine⟨_,_,_,_,dY.trans dM,?_,bo⟩;have:=R.cf (I:=I) (L:=λ k=>if k=n then Loc.at w.heap.size (cap)else L k) (O:=O.set n (.live el i.size ys)) n ys.length el i.size ys (by simp[ng]) rfl;simpa using this
theorem apx{t ty el:Nat}{i:TypeInfo}(ht:P.underlying t=some (.slice el))(hi:P.info? el=some i)
  (hinv:Inv I L O w) {n:Nat} {xs ys:List AV} {b o c:Nat} (hn:O[n]? =some (.live el i.size xs)) (hs:∀x∈ys,x.cells.length=i.size)
  (hc:∀(k:Nat) x,ys[k]? =some x->∀(j:Nat) d,x.cells[j]? =some d->∃u,w.cell? ⟨b,o+(k*i.size+j),none⟩=some u/\u.oneCell'=true/\R I L O d u)
  (lu:xs.length+ys.length<=(L n).cap):
  ∃y' I' L' w',Good I L O w I' L' (O.set n (.live el i.size (xs++ys))) w'/\R I' L' (O.set n (.live el i.size (xs++ys))) (.row n (xs.length+ys.length)) y'/\
   (Builtin.append_ #[t,t] ty #[.slice (some ⟨(L n).bf,0,none⟩) xs.length (L n).cap,.slice (some ⟨b,o,none⟩) ys.length c]).run P w= .ok y' w':=by
 obtain⟨h1,h2,h3,h4⟩:=nA hs hc;obtain⟨cur,⟨lD,g1,dE⟩,g2,g3,g4,g5,g6⟩:=hinv.obj n _ _ xs hn;have ng:n<O.length:=(List.getElem?_eq_some_iff.1 hn).1;have hmul:xs.length*i.size+ys.length*i.size<=(L n).cap*i.size:=by rw[←add_mul];exact mul_le_mul_right _ lu
 have ko:xs.length*i.size+(dC w b o (ys.length*i.size)).length<=cur.size:=by
  rw[h1,g2];exact hmul
 have bo:=tl (P:=P) w t ty el i ht hi (L n).bf xs.length (L n).cap cur g1 dE ⟨b,o,none⟩ ys.length c (dC w b o (ys.length*i.size)) h1 h2 h3 lu ko
 have dm:=ft.append (I:=I) (L:=L) (O:=O) (s:=i.size) (xs:=xs) (ys:=ys) (c:=cur) (d:=(dC w b o (ys.length*i.size)).toArray) g6 h4 (cur.toList.drop (xs.length*i.size+(dC w b o (ys.length*i.size)).length)) (cur.toList.take (xs.length*i.size))
  (by simp only[length_take,Array.length_toList];omega) (λ k hk=>by rw[getElem?_take,if_pos hk,Array.getElem?_toList])
 have dY:=hinv.put (n:=n) (l:=L n) (e:=el) (s:=i.size) (xs:=xs++ys) (O':=O.set n (.live el i.size (xs++ys))) (w':=w.setRow (L n).bf (cur.toList.take (xs.length*i.size)++dC w b o (ys.length*i.size)++cur.toList.drop (xs.length*i.size+(dC w b o (ys.length*i.size)).length)).toArray)
  (lX ng _) (by simp) (λ b' _ lP=>setRow_other w _ _ _ lP) rfl rfl rfl (by simp) (.inr ⟨_,_,_,hn,rfl⟩)
  ⟨_,⟨_,setRow_heap w _ cur _ _ _ g1,dE.size (by simp only[size_toArray,length_append,length_take,length_drop,Array.length_toList];omega)⟩,by simp only[size_toArray,length_append,length_take,length_drop,Array.length_toList];omega,by simpa using lu,g4,g5,dm⟩
  (λ _=> .inl ⟨xs,hn,by simp,λ _=>rfl⟩)
 refine⟨_,_,_,_,dY,?_,bo⟩;have:=R.cf (I:=I) (L:=λ k=>if k=n then L n else L k) (O:=O.set n (.live el i.size (xs++ys))) n (xs.length+ys.length) el i.size (xs++ys) (by simp[ng]) (by simp);simpa using this
theorem apy{t ty el:Nat}{i:TypeInfo}{z0:Value}(ht:P.underlying t=some (.slice el))(hi:P.info? el=some i)(hz:i.zero=some z0)(zF:z0.cells.size=i.size)
  (hinv:Inv I L O w) {n:Nat} {xs ys:List AV} {b o c:Nat} (hn:O[n]? =some (.live el i.size xs)) (hs:∀x∈ys,x.cells.length=i.size) (bn:ys≠[])
  (hc:∀(k:Nat) x,ys[k]? =some x->∀(j:Nat) d,x.cells[j]? =some d->∃u,w.cell? ⟨b,o+(k*i.size+j),none⟩=some u/\u.oneCell'=true/\R I L O d u)
  (o7:(xs.length+ys.length)*i.bytes<=140737488355328) (j0:xs.length+ys.length<=maxLen) (lu:(L n).cap<xs.length+ys.length):
  ∃y' I' L' w',Good I L O w I' L' (O.set n (.live el i.size (xs++ys))) w'/\R I' L' (O.set n (.live el i.size (xs++ys))) (.row n (xs.length+ys.length)) y'/\
   (Builtin.append_ #[t,t] ty #[.slice (some ⟨(L n).bf,0,none⟩) xs.length (L n).cap,.slice (some ⟨b,o,none⟩) ys.length c]).run P w= .ok y' w':=by
 obtain⟨h1,h2,h3,h4⟩:=nA hs hc;obtain⟨cur,⟨lD,g1,dE⟩,g2,g3,g4,g5,g6⟩:=hinv.obj n _ _ xs hn;have ng:n<O.length:=(List.getElem?_eq_some_iff.1 hn).1;have hm:xs.length+ys.length<=9223372036854775807:=by simpa [maxLen]using j0
 have sQ:0<ys.length:=List.length_pos_iff.2 bn
 have holds:(cur.toList.take (xs.length*i.size)).length=xs.length*i.size:=by
  simp only[length_take,Array.length_toList,g2];exact min_eq_left (mul_le_mul_right _ g3)
 have bo:=run_append_grow (P:=P) w t ty el i z0 ht hi hz ⟨(L n).bf,0,none⟩ xs.length (L n).cap (cur.toList.take (xs.length*i.size)) holds (λ j v hv=>by
  rw[add_lit,zero_add,eN g1];rw[getElem?_take]at hv
  split at hv
  ·simpa using hv
  ·cases hv) ⟨b,o,none⟩ ys.length c (dC w b o (ys.length*i.size)) h1 h2 (by omega) (by omega) (growslice_fits (by omega) o7)
 have hge:=grownCap_ge w (xs.length+ys.length) (L n).cap el;have hle:=grownCap_le_maxLen w (xs.length+ys.length) (L n).cap el j0;generalize grownCap w (xs.length+ys.length) (L n).cap el=cap at*
 have dm:=ft.append (I:=I) (L:=L) (O:=O) (s:=i.size) (xs:=xs) (ys:=ys) (c:=cur) (d:=(dC w b o (ys.length*i.size)).toArray) g6 h4 (Builtin.zeroCells z0.cells (cap- (xs.length+ys.length))).toList (cur.toList.take (xs.length*i.size))
  holds (λ k hk=>by rw[getElem?_take,if_pos hk,Array.getElem?_toList])
 have zN:=(Good.drawn hinv (w.drawn+1))
 have dY:=zN.inv.put (n:=n) (l:=Loc.at w.heap.size (cap)) (e:=el) (s:=i.size) (xs:=xs++ys) (O':=O.set n (.live el i.size (xs++ys)))
  (w':=w.drew.alloc (.cells ((cur.toList.take (xs.length*i.size)).toArray++(dC w b o (ys.length*i.size)).toArray++Builtin.zeroCells z0.cells (cap- (xs.length+ys.length))) el))
  (lX ng _) (by simp) (λ b' lP _=>heap_alloc_old w.drew _ b' lP) rfl rfl rfl (by rw[World.size_alloc];exact le_succ _) (.inl (le_refl _))
  ⟨_,⟨_,heap_alloc_new w.drew _,.inl rfl⟩,by
     simp only[Array.size_append,size_zeroCells,zF,size_toArray,holds,h1];rw[←add_mul,←add_mul];congr 1;omega,by simpa using hge,hle,g5,ft.kF dm⟩
  (λ _=> .inl ⟨xs,hn,by simp,λ he=>by simp at he;exact(bn he).elim⟩)
 refine⟨_,_,_,_,zN.trans dY,?_,bo⟩;have:=R.cf (I:=I) (L:=λ k=>if k=n then Loc.at w.heap.size (cap)else L k) (O:=O.set n (.live el i.size (xs++ys))) n (xs.length+ys.length) el i.size (xs++ys) (by simp[ng]) (by simp);simpa using this
theorem asm{t ty el s by_:Nat}{z:AV}(ht:P.underlying t=some (.slice el))(fu:m7 P el=some (s,by_,z)){x y:AV}{vx vy:Value}
  (hinv:Inv I L O w) (hx:R I L O x vx) (hy:R I L O y vy)
  (hk0:sn O y λ ys=>(∀y∈ys,y.cells.length=s)/\iu O x el s by_ ys K):
  ∃x' O' y' I' L' w',K x' O'/\Good I L O w I' L' O' w'/\R I' L' O' x' y'/\(Builtin.append_ #[t,t] ty #[vx,vy]).run P w= .ok y' w':=by
 obtain⟨i,z0,hi,hz,hz0,qp,hby,hzl,h0,zF,oJ⟩:=e8 fu;obtain⟨ys,ya,c,⟨hs,hk⟩,rfl,ah5⟩:=aqf hinv hy hk0;clear hk0;subst qp;subst hby;cases x
 case aw=>
  obtain⟨o7,j0,hk0,vj⟩:=hk;cases hx;by_cases bn:ys= []
  ·subst bn;exact⟨_,O,_,I,L,w,hk0 rfl,.refl hinv,.aw,qL ht hi none ya 0 0 c (le_refl _) w⟩
  ·obtain⟨b,o,rfl,hc⟩:=ah5 i.size hs bn;obtain⟨y',I',L',w',q1,q2,q3⟩:=asn ht hi hz h0 zF hinv hs bn hc o7 j0 (c:=c);exact⟨_,_,y',I',L',w',vj bn,q1,q2,q3⟩
 case row n len=>
  cases hn:O[n]? with
  |none=>simp only[iu,hn]at hk
  |some ob=>
   cases ob with
   |dead=>simp only[iu,hn]at hk
   |own a=>simp only[iu,hn]at hk
   |cZ g=>simp only[iu,hn]at hk
   |nil t' s'=>
    simp only[iu,hn]at hk;obtain⟨rfl,rfl,rfl,o7,j0,hk0,vj⟩:=hk;obtain⟨rfl,_⟩:=hx.kR hn;by_cases bn:ys= []
    ·subst bn;exact⟨_,O,_,I,L,w,hk0 rfl,.refl hinv,.gu n _ _ hn,qL ht hi none ya 0 0 c (le_refl _) w⟩
    ·obtain⟨b,o,rfl,hc⟩:=ah5 i.size hs bn;obtain⟨y',I',L',w',q1,q2,q3⟩:=alQ ht hi hz h0 zF hinv hn hs bn hc o7 j0 (c:=c);exact⟨_,_,y',I',L',w',vj bn,q1,q2,q3⟩
   |live t' s' xs=>
    simp only[iu,hn]at hk;obtain⟨rfl,rfl,hlen,o7,j0,hk⟩:=hk;have hv:=hx.eu hn hlen;subst hv;subst hlen;have ng:n<O.length:=(List.getElem?_eq_some_iff.1 hn).1;by_cases bn:ys= []
    ·subst bn;obtain⟨cur,⟨lD,g1,dE⟩,g2,g3,g4,g5,g6⟩:=hinv.obj n _ _ xs hn
     have hO:O.set n (.live t' i.size (xs++ []))=O:=by
      rw[append_nil];apply ext_getElem?;intro k;rw[lX ng];split
      ·rename_i nH;rw[nH,hn]
      ·rfl
     rw[hO]at hk;exact⟨_,O,_,I,L,w,hk,.refl hinv,hx,qL ht hi _ ya xs.length _ c g3 w⟩
    ·obtain⟨b,o,rfl,hc⟩:=ah5 i.size hs bn;by_cases lu:xs.length+ys.length<=(L n).cap
     ·obtain⟨y',I',L',w',q1,q2,q3⟩:=apx ht hi hinv hn hs hc lu (c:=c);exact⟨_,_,y',I',L',w',hk,q1,q2,q3⟩
     ·obtain⟨y',I',L',w',q1,q2,q3⟩:=apy ht hi hz zF hinv hn hs bn hc o7 j0 (by omega) (c:=c);exact⟨_,_,y',I',L',w',hk,q1,q2,q3⟩
 all_goals exact hk.elim
end
end Go.Ab
namespace Go.Ab
def dr(s:ByteArray):List AV:=s.data.toList.map λ c=> .v (.int .u8 c.toNat)
def eV(s:ByteArray):List Value:=s.data.toList.map λ c=> .int .u8 c.toNat
theorem nn(s:ByteArray):(dr s).length=s.size:=by simp[dr]
theorem abR(s:ByteArray):(eV s).length=s.size:=by simp[eV]
theorem uU(s:ByteArray):(eV s).toArray=s.data.map λ b=>Value.int .u8 b.toNat:=by
 apply Array.ext';simp[eV]
section
variable {P:Program} {I:du} {L:Nat->Loc} {O:List ad} {w:World} {K:AV->List ad->Prop} {e:Env} {a:Act}
theorem mK{sb:ByteArray}{s:Nat}(h:s=1):(eV sb).length=(dr sb).length*s/\(∀u∈eV sb,u.oneCell'=true)/\ft I L O s (dr sb) (eV sb).toArray:=by
 subst h;refine⟨by simp[abR,nn],λ u hu=> ?_,λ i x hx=> ?_⟩
 ·obtain⟨c,_,rfl⟩:=List.mem_map.1 hu;rfl
 ·simp only[dr,List.getElem?_map,map_eq_some_iff]at hx;obtain⟨c,hc,rfl⟩:=hx;refine⟨rfl,λ j d hj=> ?_⟩;cases j with
  |zero=>
   simp[AV.cells]at hj;subst hj;exact⟨.int .u8 c.toNat,by simp[eV,hc],rfl,.v _ rfl⟩
  |succ j=>simp[AV.cells]at hj
theorem kC(size:Nat)(s:ByteArray)(w:World):(Builtin.firstCells size s.size (.string s)).run P w= .ok (eV s).toArray w:=by
 have hx:(s.extract 0 s.size).data=s.data:=by simp[ByteArray.extract_zero_size]
 simp[Builtin.firstCells,uU]
theorem oe(w:World)(t u ty e:TypeId)(i:TypeInfo)(z:Value)(ht:P.underlying t=some (.slice e))(hu:P.underlying u=some .string)(hi:P.info? e=some i)(hz:i.zero=some z)
  (s:ByteArray) (h0:0<(dr s).length) (h63:((dr s).length:Int)<=9223372036854775807) (o7:(dr s).length*i.bytes<=281474976710656):
  (Builtin.append_ #[t,u] ty #[.slice none 0 0,.string s]).run P w=
   .ok (.slice (some ⟨w.heap.size,0,none⟩) (dr s).length (grownCap w (dr s).length 0 e)) (w.drew.alloc (.cells ((eV s).toArray++Builtin.zeroCells z.cells (grownCap w (dr s).length 0 e- (dr s).length)) e)):=by
 rw[nn]at*;rw[uU];exact run_append_nil_string w t u ty e i z ht hu hi hz s h0 h63 o7
theorem tk(w:World)(t u ty e:TypeId)(i:TypeInfo)(ht:P.underlying t=some (.slice e))(hu:P.underlying u=some .string)(hi:P.info? e=some i)
  {m0:Nat×Nat} {sz:Nat} (g jP rC:Nat) (cur:Array Value) (hg:w.heap[g]? =some (.cells cur e m0)) (hmk:Mk m0 cur.size sz)
  (s:ByteArray) (h1:∀u∈eV s,u.oneCell'=true)
  (lu:jP+(dr s).length<=rC) (ko:jP*i.size+(eV s).length<=cur.size):
  (Builtin.append_ #[t,u] ty #[.slice (some ⟨g,0,none⟩) jP rC,.string s]).run P w=
   .ok (.slice (some ⟨g,0,none⟩) (jP+(dr s).length) rC) (w.setRow g (cur.toList.take (jP*i.size)++eV s++cur.toList.drop (jP*i.size+(eV s).length)).toArray):=by
 have oJ:=iA (P:=P) g (jP*i.size) sz e m0 (eV s) 0 cur w hg hmk (by simpa using ko) h1;simp only[add_zero]at oJ;rw[nn]at*;simp[Builtin.append_,run_underlying ht,run_underlying hu,sizeOf,typeInfo,hi,Builtin.lenOf,lu,kC,Addr.add_lit,oJ]
theorem tm(w:World)(t u ty e:TypeId)(i:TypeInfo)(z:Value)(ht:P.underlying t=some (.slice e))(hu:P.underlying u=some .string)(hi:P.info? e=some i)(hz:i.zero=some z)
  (b:Addr) (jP rC:Nat) (ae3:List Value) (hlo:ae3.length=jP*i.size) (holds:∀j v,ae3[j]? =some v->w.cell? (b.add j)=some v)
  (s:ByteArray)
  (hg:rC<jP+(dr s).length) (h63:((jP+(dr s).length:Nat):Int)<=9223372036854775807) (ko:Builtin.nextslicecap (jP+(dr s).length) rC*i.bytes<=281474976710656):
  (Builtin.append_ #[t,u] ty #[.slice (some b) jP rC,.string s]).run P w=
   .ok (.slice (some ⟨w.heap.size,0,none⟩) (jP+(dr s).length) (grownCap w (jP+(dr s).length) rC e))
    (w.drew.alloc (.cells (ae3.toArray++(eV s).toArray++Builtin.zeroCells z.cells (grownCap w (jP+(dr s).length) rC e- (jP+(dr s).length))) e)):=by
 rw[nn]at*;have hn:¬(jP+s.size<=rC):=by omega
 have avD:¬(9223372036854775807<((jP:Int)+(s.size:Int))):=by omega
 have avE:¬(281474976710656<Builtin.nextslicecap (jP+s.size) rC*i.bytes):=by omega
 have hf:=λ w=>kC (P:=P) i.size s w
 have hfo:=run_firstCells_some (P:=P) w.drew i.size jP b jP rC ae3 hlo (by simpa using holds);simp[Builtin.append_,run_underlying ht,run_underlying hu,sizeOf,typeInfo,zeroValue,hi,hz,Builtin.lenOf,hn,avD,avE,Question.forced,hf,hfo,newRow,grownCap];congr 2;apply Array.ext';simp[append_assoc]
theorem nR{t u ty el:TypeId}{i:TypeInfo}(ht:P.underlying t=some (.slice el))(hu:P.underlying u=some .string)(hi:P.info? el=some i)(b:Option Addr)(n cap:Nat)(hn:n<=cap){s:ByteArray}(hs:s.size=0)(w:World):
  (Builtin.append_ #[t,u] ty #[.slice b n cap,.string s]).run P w= .ok (.slice b n cap) w:=by
 have hf:(Builtin.firstCells i.size 0 (.string s)).run P w= .ok #[] w:=by
  have:=kC (P:=P) i.size s w;rw[hs]at this;rw[this,List.eq_nil_of_length_eq_zero (by rw[abR,hs]:(eV s).length=0)]
 cases b<;>simp[Builtin.append_,run_underlying ht,run_underlying hu,sizeOf,typeInfo,hi,Builtin.lenOf,hs,hn,hf,storeCells]
theorem apw{t u ty el:Nat}{i:TypeInfo}{z0:Value}(ht:P.underlying t=some (.slice el))(hu:P.underlying u=some .string){sb:ByteArray}(hi:P.info? el=some i)(hz:i.zero=some z0)(h0:0<i.size)(zF:z0.cells.size=i.size)
  (hinv:Inv I L O w) (h1s:i.size=1) (bn:(dr sb)≠[])
  (o7:(dr sb).length*i.bytes<=140737488355328) (j0:(dr sb).length<=maxLen):
  ∃y' I' L' w',Good I L O w I' L' (O++ [.live el i.size (dr sb)]) w'/\R I' L' (O++ [.live el i.size (dr sb)]) (.row O.length (dr sb).length) y'/\
   (Builtin.append_ #[t,u] ty #[.slice none 0 0,.string sb]).run P w= .ok y' w':=by
 obtain⟨h1,h3,h4⟩:=mK (I:=I) (L:=L) (O:=O) (sb:=sb) h1s;have sQ:0<(dr sb).length:=List.length_pos_iff.2 bn;have hm:(dr sb).length<=9223372036854775807:=by simpa [maxLen]using j0
 have bo:=oe (P:=P) w t u ty el i z0 ht hu hi hz sb sQ (by omega) (by omega);have hge:=grownCap_ge w (dr sb).length 0 el;have hle:=grownCap_le_maxLen w (dr sb).length 0 el j0;generalize grownCap w (dr sb).length 0 el=cap at*;have dY:=(Good.drawn hinv (w.drawn+1));have dm:=ft.append (I:=I) (L:=L) (O:=O) (s:=i.size) (xs:=[]) (ys:=(dr sb)) (c:= #[]) (d:=(eV sb).toArray) (λ i x hx=>by simp at hx) h4 (Builtin.zeroCells z0.cells (cap- (dr sb).length)).toList [] (by simp) (by simp)
 have dM:=dY.inv.new (e:=el) (s:=i.size) (xs:=(dr sb)) ((eV sb).toArray++Builtin.zeroCells z0.cells (cap- (dr sb).length)) cap
  (by rw[Array.size_append,size_zeroCells,zF];simp only[size_toArray,h1];rw[←add_mul];congr 1;omega) hge hle h0 (by
   have:ft I L O i.size (dr sb) ((eV sb).toArray++Builtin.zeroCells z0.cells (cap- (dr sb).length)):=by simpa using ft.kF dm
   exact this)
 refine⟨_,_,_,_,dY.trans dM,?_,bo⟩;have:=R.cf (I:=I) (L:=λ k=>if k=O.length then Loc.at w.heap.size (cap)else L k) (O:=O++ [.live el i.size (dr sb)]) O.length (dr sb).length el i.size (dr sb) (by simp) rfl;simpa using this
theorem uL(w:World)(t u ty e:TypeId)(i:TypeInfo)(z:Value)(ki:IntKind)(ht:P.underlying t=some (.slice e))(hu:P.underlying u=some (.int ki))(hi:P.info? e=some i)(hz:i.zero=some z)(h0:0<i.size)
  (k:Nat) (hk:0<k) (h63:(k:Int)<=9223372036854775807) (o7:k*i.bytes<=281474976710656):
  (Builtin.append_ #[t,u] ty #[.slice none 0 0,.int .i64 k]).run P w=
   .ok (.slice (some ⟨w.heap.size,0,none⟩) k (grownCap w k 0 e)) (w.drew.alloc (.cells (Builtin.zeroCells z.cells k++Builtin.zeroCells z.cells (grownCap w k 0 e- k)) e)):=by
 have hn:k≠0:=by omega
 have avD:¬(9223372036854775807<(k:Int)):=by omega
 have avE:¬(281474976710656<Builtin.nextslicecap k 0*i.bytes):=by rw[nextslicecap_zero hk];omega
 have hw:IntKind.i64.wrap (k:Int)=k:=by
  simp[IntKind.wrap,IntKind.signed,IntKind.bits]
  split<;>omega
 have aCI:¬(281474976710656<(k:Int)*(i.bytes:Int)):=by
  have:((k*i.bytes:Nat):Int)<=281474976710656:=by omega
  rw[Int.natCast_mul]at this;omega
 have aF:¬((k:Int)<0):=by omega
 have hs:¬(k*i.size=0):=Nat.mul_ne_zero hn (by omega);simp[Builtin.append_,run_underlying ht,run_underlying hu,sizeOf,typeInfo,zeroValue,hi,hz,asInt,asIntOf,hw,aF,aCI,Builtin.firstCells,hn,hs,avD,avE,Question.forced,newRow,grownCap]
theorem apu{t u ty el:Nat}{i:TypeInfo}{z0:Value}{z:AV}{ki:IntKind}(ht:P.underlying t=some (.slice el))(hu:P.underlying u=some (.int ki)){k:Nat}(hi:P.info? el=some i)(hz:i.zero=some z0)(hz0:alS z0=some z)(h0:0<i.size)(zF:z0.cells.size=i.size)
  (oJ:z.storable=true) (hzl:z.cells.length=i.size) (hinv:Inv I L O w) (hk:0<k) (o7:k*i.bytes<=281474976710656) (j0:k<=maxLen):
  ∃y' I' L' w',Good I L O w I' L' (O++ [.live el i.size (List.replicate k z)]) w'/\R I' L' (O++ [.live el i.size (List.replicate k z)]) (.row O.length k) y'/\
   (Builtin.append_ #[t,u] ty #[.slice none 0 0,.int .i64 k]).run P w= .ok y' w':=by
 have hm:k<=9223372036854775807:=by simpa [maxLen]using j0
 have bo:=uL (P:=P) w t u ty el i z0 ki ht hu hi hz h0 k hk (by omega) o7;have hge:=grownCap_ge w k 0 el;have hle:=grownCap_le_maxLen w k 0 el j0;generalize grownCap w k 0 el=cap at*;have dY:=(Good.drawn hinv (w.drawn+1))
 have h4:ft I L O i.size (List.replicate k z) (Builtin.zeroCells z0.cells k):=by
  have:=ft.made (I:=I) (L:=L) (O:=O) (cap:=k) (n:=k) (eO hz0) oJ hzl h0 (le_refl _);unfold Builtin.zeroCells;rw[zF]at this⊢;exact this
 have qp:(Builtin.zeroCells z0.cells k).size=k*i.size:=by rw[size_zeroCells,zF]
 have dm:=ft.append (I:=I) (L:=L) (O:=O) (s:=i.size) (xs:=[]) (ys:=List.replicate k z) (c:= #[]) (d:=Builtin.zeroCells z0.cells k) (λ i x hx=>by simp at hx) h4 (Builtin.zeroCells z0.cells (cap- k)).toList [] (by simp) (by simp)
 have dM:=dY.inv.new (e:=el) (s:=i.size) (xs:=List.replicate k z) (Builtin.zeroCells z0.cells k++Builtin.zeroCells z0.cells (cap- k)) cap
  (by rw[Array.size_append,size_zeroCells,size_zeroCells,zF,←add_mul];congr 1;omega) (by simpa using hge) hle h0 (by
   have:ft I L O i.size (List.replicate k z) (Builtin.zeroCells z0.cells k++Builtin.zeroCells z0.cells (cap- k)):=by simpa using ft.kF dm
   exact this)
 refine⟨_,_,_,_,dY.trans dM,?_,bo⟩;have:=R.cf (I:=I) (L:=λ m=>if m=O.length then Loc.at w.heap.size (cap)else L m) (O:=O++ [.live el i.size (List.replicate k z)]) O.length k el i.size (List.replicate k z) (by simp) (by simp);simpa using this
theorem aiE{t u ty el:Nat}{i:TypeInfo}{z0:Value}(ht:P.underlying t=some (.slice el))(hu:P.underlying u=some .string){sb:ByteArray}(hi:P.info? el=some i)(hz:i.zero=some z0)(h0:0<i.size)(zF:z0.cells.size=i.size)
  (hinv:Inv I L O w) {n:Nat} (hn:O[n]? =some (.nil el i.size)) (h1s:i.size=1) (bn:(dr sb)≠[])
  (o7:(dr sb).length*i.bytes<=140737488355328) (j0:(dr sb).length<=maxLen):
  ∃y' I' L' w',Good I L O w I' L' (O.set n (.live el i.size (dr sb))) w'/\R I' L' (O.set n (.live el i.size (dr sb))) (.row n (dr sb).length) y'/\
   (Builtin.append_ #[t,u] ty #[.slice none 0 0,.string sb]).run P w= .ok y' w':=by
 have ng:n<O.length:=(List.getElem?_eq_some_iff.1 hn).1;obtain⟨h1,h3,h4⟩:=mK (I:=I) (L:=L) (O:=O) (sb:=sb) h1s;have sQ:0<(dr sb).length:=List.length_pos_iff.2 bn;have hm:(dr sb).length<=9223372036854775807:=by simpa [maxLen]using j0
 have bo:=oe (P:=P) w t u ty el i z0 ht hu hi hz sb sQ (by omega) (by omega);have hge:=grownCap_ge w (dr sb).length 0 el;have hle:=grownCap_le_maxLen w (dr sb).length 0 el j0;generalize grownCap w (dr sb).length 0 el=cap at*;have dY:=(Good.drawn hinv (w.drawn+1));have dm:=ft.append (I:=I) (L:=L) (O:=O) (s:=i.size) (xs:=[]) (ys:=(dr sb)) (c:= #[]) (d:=(eV sb).toArray) (λ i x hx=>by simp at hx) h4 (Builtin.zeroCells z0.cells (cap- (dr sb).length)).toList [] (by simp) (by simp)
 have dM:=dY.inv.put (n:=n) (l:=Loc.at w.heap.size (cap)) (e:=el) (s:=i.size) (xs:=(dr sb)) (O':=O.set n (.live el i.size (dr sb)))
  (w':=w.drew.alloc (.cells ((eV sb).toArray++Builtin.zeroCells z0.cells (cap- (dr sb).length)) el))
  (lX ng _) (by simp) (λ b' lP _=>heap_alloc_old w.drew _ b' lP) rfl rfl rfl (by rw[World.size_alloc];exact le_succ _) (.inl (le_refl _))
  ⟨_,⟨_,heap_alloc_new w.drew _,.inl rfl⟩,by rw[Array.size_append,size_zeroCells,zF];simp only[size_toArray,h1];rw[←add_mul];congr 1;omega,hge,hle,h0,by
    have:ft I L O i.size (dr sb) ((eV sb).toArray++Builtin.zeroCells z0.cells (cap- (dr sb).length)):=by simpa using ft.kF dm
    exact this⟩
  (λ _=> .inr ⟨hn,bn⟩)
 refine⟨_,_,_,_,dY.trans dM,?_,bo⟩;have:=R.cf (I:=I) (L:=λ k=>if k=n then Loc.at w.heap.size (cap)else L k) (O:=O.set n (.live el i.size (dr sb))) n (dr sb).length el i.size (dr sb) (by simp[ng]) rfl;simpa using this
theorem alO{t u ty el:Nat}{i:TypeInfo}(ht:P.underlying t=some (.slice el))(hu:P.underlying u=some .string){sb:ByteArray}(hi:P.info? el=some i)
  (hinv:Inv I L O w) {n:Nat} {xs:List AV} (h1s:i.size=1) (hn:O[n]? =some (.live el i.size xs))
  (lu:xs.length+(dr sb).length<=(L n).cap):
  ∃y' I' L' w',Good I L O w I' L' (O.set n (.live el i.size (xs++(dr sb)))) w'/\R I' L' (O.set n (.live el i.size (xs++(dr sb)))) (.row n (xs.length+(dr sb).length)) y'/\
   (Builtin.append_ #[t,u] ty #[.slice (some ⟨(L n).bf,0,none⟩) xs.length (L n).cap,.string sb]).run P w= .ok y' w':=by
 obtain⟨h1,h3,h4⟩:=mK (I:=I) (L:=L) (O:=O) (sb:=sb) h1s;obtain⟨cur,⟨lD,g1,dE⟩,g2,g3,g4,g5,g6⟩:=hinv.obj n _ _ xs hn;have ng:n<O.length:=(List.getElem?_eq_some_iff.1 hn).1;have hmul:xs.length*i.size+(dr sb).length*i.size<=(L n).cap*i.size:=by rw[←add_mul];exact mul_le_mul_right _ lu
 have ko:xs.length*i.size+(eV sb).length<=cur.size:=by
  rw[h1,g2];exact hmul
 have bo:=tk (P:=P) w t u ty el i ht hu hi (L n).bf xs.length (L n).cap cur g1 dE sb h3 lu ko
 have dm:=ft.append (I:=I) (L:=L) (O:=O) (s:=i.size) (xs:=xs) (ys:=(dr sb)) (c:=cur) (d:=(eV sb).toArray) g6 h4 (cur.toList.drop (xs.length*i.size+(eV sb).length)) (cur.toList.take (xs.length*i.size))
  (by simp only[length_take,Array.length_toList];omega) (λ k hk=>by rw[getElem?_take,if_pos hk,Array.getElem?_toList])
 have dY:=hinv.put (n:=n) (l:=L n) (e:=el) (s:=i.size) (xs:=xs++(dr sb)) (O':=O.set n (.live el i.size (xs++(dr sb)))) (w':=w.setRow (L n).bf (cur.toList.take (xs.length*i.size)++eV sb++cur.toList.drop (xs.length*i.size+(eV sb).length)).toArray)
  (lX ng _) (by simp) (λ b' _ lP=>setRow_other w _ _ _ lP) rfl rfl rfl (by simp) (.inr ⟨_,_,_,hn,rfl⟩)
  ⟨_,⟨_,setRow_heap w _ cur _ _ _ g1,dE.size (by simp only[size_toArray,length_append,length_take,length_drop,Array.length_toList];omega)⟩,by simp only[size_toArray,length_append,length_take,length_drop,Array.length_toList];omega,by simpa using lu,g4,g5,dm⟩
  (λ _=> .inl ⟨xs,hn,by simp,λ _=>rfl⟩)
 refine⟨_,_,_,_,dY,?_,bo⟩;have:=R.cf (I:=I) (L:=λ k=>if k=n then L n else L k) (O:=O.set n (.live el i.size (xs++(dr sb)))) n (xs.length+(dr sb).length) el i.size (xs++(dr sb)) (by simp[ng]) (by simp);simpa using this
theorem alP{t u ty el:Nat}{i:TypeInfo}{z0:Value}(ht:P.underlying t=some (.slice el))(hu:P.underlying u=some .string){sb:ByteArray}(hi:P.info? el=some i)(hz:i.zero=some z0)(zF:z0.cells.size=i.size)
  (hinv:Inv I L O w) {n:Nat} {xs:List AV} (h1s:i.size=1) (hn:O[n]? =some (.live el i.size xs)) (bn:(dr sb)≠[])
  (o7:(xs.length+(dr sb).length)*i.bytes<=140737488355328) (j0:xs.length+(dr sb).length<=maxLen) (lu:(L n).cap<xs.length+(dr sb).length):
  ∃y' I' L' w',Good I L O w I' L' (O.set n (.live el i.size (xs++(dr sb)))) w'/\R I' L' (O.set n (.live el i.size (xs++(dr sb)))) (.row n (xs.length+(dr sb).length)) y'/\
   (Builtin.append_ #[t,u] ty #[.slice (some ⟨(L n).bf,0,none⟩) xs.length (L n).cap,.string sb]).run P w= .ok y' w':=by
 obtain⟨h1,h3,h4⟩:=mK (I:=I) (L:=L) (O:=O) (sb:=sb) h1s;obtain⟨cur,⟨lD,g1,dE⟩,g2,g3,g4,g5,g6⟩:=hinv.obj n _ _ xs hn;have ng:n<O.length:=(List.getElem?_eq_some_iff.1 hn).1;have hm:xs.length+(dr sb).length<=9223372036854775807:=by simpa [maxLen]using j0
 have sQ:0<(dr sb).length:=List.length_pos_iff.2 bn
 have holds:(cur.toList.take (xs.length*i.size)).length=xs.length*i.size:=by
  simp only[length_take,Array.length_toList,g2];exact min_eq_left (mul_le_mul_right _ g3)
 have bo:=tm (P:=P) w t u ty el i z0 ht hu hi hz ⟨(L n).bf,0,none⟩ xs.length (L n).cap (cur.toList.take (xs.length*i.size)) holds (λ j v hv=>by
  rw[add_lit,zero_add,eN g1];rw[getElem?_take]at hv
  split at hv
  ·simpa using hv
  ·cases hv) sb (by omega) (by omega) (growslice_fits (by omega) o7)
 have hge:=grownCap_ge w (xs.length+(dr sb).length) (L n).cap el;have hle:=grownCap_le_maxLen w (xs.length+(dr sb).length) (L n).cap el j0;generalize grownCap w (xs.length+(dr sb).length) (L n).cap el=cap at*
 have dm:=ft.append (I:=I) (L:=L) (O:=O) (s:=i.size) (xs:=xs) (ys:=(dr sb)) (c:=cur) (d:=(eV sb).toArray) g6 h4 (Builtin.zeroCells z0.cells (cap- (xs.length+(dr sb).length))).toList (cur.toList.take (xs.length*i.size))
  holds (λ k hk=>by rw[getElem?_take,if_pos hk,Array.getElem?_toList])
 have zN:=(Good.drawn hinv (w.drawn+1))
 have dY:=zN.inv.put (n:=n) (l:=Loc.at w.heap.size (cap)) (e:=el) (s:=i.size) (xs:=xs++(dr sb)) (O':=O.set n (.live el i.size (xs++(dr sb))))
  (w':=w.drew.alloc (.cells ((cur.toList.take (xs.length*i.size)).toArray++(eV sb).toArray++Builtin.zeroCells z0.cells (cap- (xs.length+(dr sb).length))) el))
  (lX ng _) (by simp) (λ b' lP _=>heap_alloc_old w.drew _ b' lP) rfl rfl rfl (by rw[World.size_alloc];exact le_succ _) (.inl (le_refl _))
  ⟨_,⟨_,heap_alloc_new w.drew _,.inl rfl⟩,by
     simp only[Array.size_append,size_zeroCells,zF,size_toArray,holds,h1];rw[←add_mul,←add_mul];congr 1;omega,by simpa using hge,hle,g5,ft.kF dm⟩
  (λ _=> .inl ⟨xs,hn,by simp,λ he=>by simp at he;exact(bn he).elim⟩)
 refine⟨_,_,_,_,zN.trans dY,?_,bo⟩;have:=R.cf (I:=I) (L:=λ k=>if k=n then Loc.at w.heap.size (cap)else L k) (O:=O.set n (.live el i.size (xs++(dr sb)))) n (xs.length+(dr sb).length) el i.size (xs++(dr sb)) (by simp[ng]) (by simp);simpa using this
theorem apv{t u ty el s by_:Nat}{z:AV}(ht:P.underlying t=some (.slice el))(hu:P.underlying u=some .string)(fu:m7 P el=some (s,by_,z)){x:AV}{vx:Value}{sb:ByteArray}
  (hinv:Inv I L O w) (hx:R I L O x vx) (xe:s=1) (hk:iu O x el s by_ (dr sb) K):
  ∃x' O' y' I' L' w',K x' O'/\Good I L O w I' L' O' w'/\R I' L' O' x' y'/\(Builtin.append_ #[t,u] ty #[vx,.string sb]).run P w= .ok y' w':=by
 obtain⟨i,z0,hi,hz,hz0,qp,hby,hzl,h0,zF,oJ⟩:=e8 fu;subst qp;subst hby;have aoh:dr sb= []->sb.size=0:=λ h=>by have:=nn sb;rw[h]at this;simpa using this.symm
 cases x
 case aw=>
  obtain⟨o7,j0,hk0,vj⟩:=hk;cases hx;by_cases bn:dr sb= []
  ·exact⟨_,O,_,I,L,w,hk0 bn,.refl hinv,.aw,nR ht hu hi none 0 0 (le_refl _) (aoh bn) w⟩
  ·obtain⟨y',I',L',w',q1,q2,q3⟩:=apw ht hu hi hz h0 zF hinv xe bn o7 j0;exact⟨_,_,y',I',L',w',vj bn,q1,q2,q3⟩
 case row n len=>
  cases hn:O[n]? with
  |none=>simp only[iu,hn]at hk
  |some ob=>
   cases ob with
   |dead=>simp only[iu,hn]at hk
   |own a=>simp only[iu,hn]at hk
   |cZ g=>simp only[iu,hn]at hk
   |nil t' s'=>
    simp only[iu,hn]at hk;obtain⟨rfl,rfl,rfl,o7,j0,hk0,vj⟩:=hk;obtain⟨rfl,_⟩:=hx.kR hn;by_cases bn:dr sb= []
    ·exact⟨_,O,_,I,L,w,hk0 bn,.refl hinv,.gu n _ _ hn,nR ht hu hi none 0 0 (le_refl _) (aoh bn) w⟩
    ·obtain⟨y',I',L',w',q1,q2,q3⟩:=aiE ht hu hi hz h0 zF hinv hn xe bn o7 j0;exact⟨_,_,y',I',L',w',vj bn,q1,q2,q3⟩
   |live t' s' xs=>
    simp only[iu,hn]at hk;obtain⟨rfl,rfl,hlen,o7,j0,hk⟩:=hk;have hv:=hx.eu hn hlen;subst hv;subst hlen;have ng:n<O.length:=(List.getElem?_eq_some_iff.1 hn).1;by_cases bn:dr sb= []
    ·obtain⟨cur,⟨lD,g1,dE⟩,g2,g3,g4,g5,g6⟩:=hinv.obj n _ _ xs hn
     have hO:O.set n (.live t' i.size (xs++dr sb))=O:=by
      rw[bn,append_nil];apply ext_getElem?;intro k;rw[lX ng];split
      ·rename_i nH;rw[nH,hn]
      ·rfl
     rw[hO,bn]at hk;exact⟨_,O,_,I,L,w,hk,.refl hinv,by simpa using hx,nR ht hu hi _ xs.length _ g3 (aoh bn) w⟩
    ·by_cases lu:xs.length+(dr sb).length<=(L n).cap
     ·obtain⟨y',I',L',w',q1,q2,q3⟩:=alO ht hu hi hinv xe hn lu;exact⟨_,_,y',I',L',w',hk,q1,q2,q3⟩
     ·obtain⟨y',I',L',w',q1,q2,q3⟩:=alP ht hu hi hz zF hinv xe hn bn o7 j0 (by omega);exact⟨_,_,y',I',L',w',hk,q1,q2,q3⟩
 all_goals exact hk.elim
theorem aqt(hi:Inv I L O w){ty s t el:TypeId}{pos:String}{af:Array Edge}{g:Option (Nat×Bool)}{d:Option Tmp}(hs:P.underlying s=some .string)(ht:P.underlying t=some (.slice el))(hu:aa7 P el=true)(he:∀t,R I L O (e t) (a.tmps.getD t undef)){x:Operand}{ax:aI}(hx:bH x=some ax)(hk:wpOp P (.s2b el ax) e O K):
  fD P I L O w (execOp a.eval ⟨d,.convert s t x,ty,pos,af,g⟩) K:=by
 have he8:P.underlying el=some (.int .u8):=by
  unfold aa7 at hu
  split at hu
  ·assumption
  ·cases hu
 have rx:=aq hx he;simp only[wpOp]at hk
 split at hk
 ·rename_i sb hsb;rw[hsb]at rx;have hv:=rx.exact;obtain⟨j0,hk⟩:=hk;have bo:=run_bytes_of_string (P:=P) w s t el sb hs ht he8;have hge:=grownCap_ge w sb.size 0 el;have hle:=grownCap_le_maxLen w sb.size 0 el j0;generalize grownCap w sb.size 0 el=cap at*;obtain⟨h1,h3,h4⟩:=mK (I:=I) (L:=L) (O:=O) (sb:=sb) (s:=1) rfl;have dY:=(Good.drawn hi (w.drawn+1))
  have qp:(bytesRow sb cap).size=cap*1:=by
   have:sb.data.size=sb.size:=rfl;simp[bytesRow];omega
  have dm:ft I L O 1 (dr sb) (bytesRow sb cap):=by
   intro i y hy;obtain⟨q1,q2⟩:=h4 i y hy;refine⟨q1,λ j b hj=> ?_⟩;obtain⟨u,hu1,hu2,hu3⟩:=q2 j b hj;refine⟨u,?_,hu2,hu3⟩;unfold bytesRow;rw[Array.getElem?_append];have aF:=(Array.getElem?_eq_some_iff.1 hu1).1;rw[uU]at aF hu1;rw[if_pos aF];exact hu1
  have hlen:(dr sb).length=sb.size:=nn sb;have dM:=dY.inv.axW (e:=el) (s:=1) (xs:=dr sb) (bytesRow sb cap) cap (m:=((bytesRow sb cap).size,(bytesRow sb cap).size+1)) (.inr ⟨rfl,rfl⟩) qp (by omega) hle (by omega) dm;refine⟨_,_,_,_,_,_,hk,dY.trans dM,?_,.inl (by simp only[execOp,hv];rw[Sem.run_bind,bo];rfl)⟩;have:=R.cf (I:=I) (L:=λ k=>if k=O.length then Loc.at w.heap.size (cap)else L k) (O:=O++ [.live el 1 (dr sb)]) O.length (dr sb).length el 1 (dr sb) (by simp) rfl;rw[hlen]at this;rw[if_pos rfl]at this;exact this
 ·exact hk.elim
theorem akj(hi:Inv I L O w){ty t el:TypeId}{pos:String}{af:Array Edge}{g:Option (Nat×Bool)}{d:Option Tmp}(ht:P.underlying t=some (.slice el))(hu:aa7 P el=true)(he:∀t,R I L O (e t) (a.tmps.getD t undef)){x:Operand}{ax:aI}(hx:bH x=some ax)(hk:wpOp P (.y6 el ax) e O K):
  fD P I L O w (execOp a.eval ⟨d,.convert t t x,ty,pos,af,g⟩) K:=by
 have he8:P.underlying el=some (.int .u8):=by
  unfold aa7 at hu
  split at hu
  ·assumption
  ·cases hu
 have rx:=aq hx he;simp only[wpOp]at hk
 split at hk
 ·rename_i n len hn
  split at hk
  ·rename_i t' s xs hO;obtain⟨rfl,rfl,rfl,hk⟩:=hk;rw[hn]at rx;have hv:=rx.eu hO rfl;obtain⟨c,⟨lD,g1,dE⟩,g2,g3,g4,g5,g6⟩:=hi.obj n _ _ xs hO;have aF:=(Array.getElem?_eq_some_iff.1 g1).1;have ng:=(List.getElem?_eq_some_iff.1 hO).1;have au6:w.shape? (L n).bf=some (t',c.size):=by unfold World.shape?;rw[g1]
   have aoo:(w.freeze ⟨(L n).bf,c.size,none⟩ 1).heap=w.heap.setIfInBounds (L n).bf (.cells c t' (c.size,c.size+1)):=by
    unfold World.freeze;rw[if_neg (by decide)];apply Array.ext_getElem?;intro i;simp only[Array.getElem?_modify,Array.getElem?_setIfInBounds];by_cases h:(L n).bf=i
    ·subst h;rw[if_pos rfl,if_pos rfl,if_pos aF,g1];simp only[map_some];rcases dE with rfl|⟨rfl,_⟩
     ·simp
     ·simp
    ·rw[if_neg h,if_neg h]
   have dY:=hi.put (n:=n) (l:=L n) (e:=t') (s:=1) (xs:=xs) (O':=O) (w':=w.freeze ⟨(L n).bf,c.size,none⟩ 1)
    (λ k=>by by_cases h:k=n
             ·subst h;rw[if_pos rfl,hO]
             ·rw[if_neg h]) (le_refl _) (λ b hb bn=>by rw[aoo];simp[Ne.symm bn]) (by unfold World.freeze;rw[if_neg (by decide)]) (by unfold World.freeze;rw[if_neg (by decide)]) (by unfold World.freeze;rw[if_neg (by decide)]) (by rw[aoo];simp) (.inr ⟨_,_,_,hO,rfl⟩)
    ⟨c,⟨_,by rw[aoo];simp[aF],.inr ⟨rfl,rfl⟩⟩,g2,g3,g4,g5,g6⟩ (λ _=> .inl ⟨xs,hO,le_refl _,λ _=>rfl⟩)
   have hL:(λ k=>if k=n then L n else L k)=L:=by
    funext k
    by_cases h:k=n
    ·subst h;rw[if_pos rfl]
    ·rw[if_neg h]
   rw[hL]at dY
   have bo:(convert t t (.slice (some ⟨(L n).bf,0,none⟩) xs.length (L n).cap)).run P w= .ok (.slice (some ⟨(L n).bf,0,none⟩) xs.length (L n).cap) (w.freeze ⟨(L n).bf,c.size,none⟩ 1):=by
    simp[convert,run_underlying ht,run_underlying he8,markStringish,au6]
   refine⟨_,_,_,_,_,_,hk,dY,?_,.inl (by simp only[execOp,hv];rw[Sem.run_bind,bo];rfl)⟩;exact R.cf (I:=I) (L:=L) (O:=O) n xs.length t' 1 xs hO rfl
  ·exact hk.elim
 ·exact hk.elim
end
end Go.Ab
namespace Go.Ab
section
variable {P:Program} {I:du} {L:Nat->Loc} {O:List ad} {w:World} {K:AV->List ad->Prop} {e:Env} {a:Act}
variable {d:Option Tmp} {ty:TypeId} {pos:String} {af:Array Edge} {g:Option (Nat×Bool)} {ao:ez}
theorem aqu(hi:Inv I L O w)(he:∀t,R I L O (e t) (a.tmps.getD t undef)){x:Operand}(hc:bY P ty (.move x)=some ao)(hk:wpOp P ao e O K):
  fD P I L O w (execOp a.eval ⟨d,.move x,ty,pos,af,g⟩) K:=by
 simp only[bY,bind_eq_bind,bind_eq_some_iff,Option.some.injEq]at hc;obtain⟨ax,hx,rfl⟩:=hc;exact fD.same hi hk (aq hx he) rfl
theorem ahg(hi:Inv I L O w)(he:∀t,R I L O (e t) (a.tmps.getD t undef)){x:Operand}(hc:bY P ty (.assign x)=some ao)(hk:wpOp P ao e O K):
  fD P I L O w (execOp a.eval ⟨d,.assign x,ty,pos,af,g⟩) K:=by
 simp only[bY,bind_eq_bind,bind_eq_some_iff,Option.some.injEq]at hc;obtain⟨ax,hx,rfl⟩:=hc;exact fD.same hi hk (aq hx he) rfl
theorem amF(hi:Inv I L O w)(he:∀t,R I L O (e t) (a.tmps.getD t undef)){x y z:Operand}(hc:bY P ty (.pick x y z)=some ao)(hk:wpOp P ao e O K):
  fD P I L O w (execOp a.eval ⟨d,.pick x y z,ty,pos,af,g⟩) K:=by
 simp only[bY,bind_eq_bind,bind_eq_some_iff,Option.some.injEq]at hc;obtain⟨ax,hx,ay,hy,az,hz,rfl⟩:=hc;have rx:=aq hx he;simp only[wpOp]at hk
 split at hk
 ·rename_i t ht;rw[ht]at rx;have:=rx.bool;refine fD.same hi hk (y:=if t=true then a.eval y else a.eval z) ?_ ?_
  ·cases t
   ·simpa using aq hz he
   ·simpa using aq hy he
  ·simp[execOp,this,asBool]
 ·exact hk.elim
theorem ako(hi:Inv I L O w){t:TypeId}(hc:bY P ty (.alloc t)=some ao)(hk:wpOp P ao e O K):
  fD P I L O w (execOp a.eval ⟨d,.alloc t,ty,pos,af,g⟩) K:=by
 simp only[bY,bind_eq_bind,bind_eq_some_iff,Option.some.injEq]at hc;obtain⟨⟨s,b,z⟩,hz,rfl⟩:=hc;obtain⟨i,z0,h1,h2,h3,rfl,rfl,h4,h5,h6,h7⟩:=e8 hz;obtain⟨q1,q2⟩:=hi.box t (eO (I:=I) (L:=L) (O:=O) h3) h7 h4 h5;exact⟨_,_,_,_,_,_,hk,q1,q2,.inl (by simp[execOp,Instr.alloc,zeroValue,typeInfo,h1,h2,newVar,newRow])⟩
theorem aqz(hi:Inv I L O w)(he:∀t,R I L O (e t) (a.tmps.getD t undef)){t:TypeId}{x:Operand}(hc:bY P ty (.box t x)=some ao)(hk:wpOp P ao e O K):
  fD P I L O w (execOp a.eval ⟨d,.box t x,ty,pos,af,g⟩) K:=by
 simp only[bY,bind_eq_bind,bind_eq_some_iff]at hc;obtain⟨i,eH,hc⟩:=hc
 split at hc
 ·rename_i hs;simp only[bind_eq_some_iff,Option.some.injEq]at hc;obtain⟨ax,hx,rfl⟩:=hc;obtain⟨h1,h2,h3⟩:=hk;obtain⟨q1,q2⟩:=hi.box t (aq hx he) h2 h1 hs;exact⟨_,_,_,_,_,_,h3,q1,q2,.inl (by simp[execOp,Instr.box,newVar,newRow])⟩
 ·cases hc
theorem amK(hi:Inv I L O w)(he:∀t,R I L O (e t) (a.tmps.getD t undef)){t:TypeId}{x:Operand}(hc:bY P ty (.load t x)=some ao)(hk:wpOp P ao e O K):
  fD P I L O w (execOp a.eval ⟨d,.load t x,ty,pos,af,g⟩) K:=by
 simp only[bY,bind_eq_bind,bind_eq_some_iff,Option.some.injEq]at hc;obtain⟨n,hn,ax,hx,rfl⟩:=hc;have rx:=aq hx he;simp only[wpOp]at hk;generalize ax.ev e=A at rx hk;generalize hX:a.eval x=X at rx;cases A
 case cj y f=>
  obtain⟨h1,h2⟩:=hk;cases rx with
  |cj _ _ bf base bz hv hr=>
   have ck:∀j,j<n.getD 1->∃c,y.cells[f+j]? =some c:=λ j hj=>⟨y.cells[f+j]'(by omega),by simp⟩
   have bo:=sw (P:=P) (t:=t) hn bf (base+f) (λ j=>bz (f+j)) w (λ j hj=>by
    obtain⟨c,hc⟩:=ck j hj;rw[add_assoc];exact hi.kJ _ _ _ (hv _ c hc).1)
   refine fD.same hi h2 (nD (bz:=λ j=>bz (f+j)) h1 λ j c hj aF=>hr _ c hj) ?_;simp only[execOp,hX];simp[bo]
 case ptr k len i f=>
  cases hO:O[k]? with
  |none=>simp only[hO]at hk
  |some ob=>
   cases ob with
   |dead=>simp only[hO]at hk
   |own a=>simp only[hO]at hk
   |cZ g=>simp only[hO]at hk
   |nil t' s'=>simp only[hO]at hk
   |live t' s xs=>
    simp only[hO]at hk;obtain⟨hl,aF,hf,hk⟩:=hk;have:=rx.ib hO hl;subst this;obtain⟨c,⟨lD,g1,dE⟩,g2,g3,g4,g5,g6⟩:=hi.obj k _ _ xs hO;have oH:xs[i]? =some (xs.getD i .top):=by simp[List.getD,show i<xs.length by omega]
    obtain⟨g7,g8⟩:=g6 i _ oH;generalize xs.getD i .top=y at*
    have hex:∀j,∃u,j<n.getD 1->c[i*s+(f+j)]? =some u/\∀c',y.cells[f+j]? =some c'->R I L O c' u:=by
     intro j;by_cases hj:j<n.getD 1
     ·have gf:y.cells[f+j]? =some (y.cells[f+j]'(by omega)):=by simp
      obtain⟨u,hu,_,hr⟩:=g8 (f+j) _ gf;exact⟨u,λ _=>⟨hu,λ c'' h''=>by rw[gf]at h'';cases h'';exact hr⟩⟩
     ·exact⟨undef,λ h=>(hj h).elim⟩
    let bz:Nat->Value:=λ j=>(hex j).choose
    have afx:∀j,j<n.getD 1->c[i*s+(f+j)]? =some (bz j)/\∀c',y.cells[f+j]? =some c'->R I L O c' (bz j):=λ j hj=>(hex j).choose_spec hj
    have bo:=sw (P:=P) (t:=t) hn (L k).bf (i*s+f) bz w (λ j hj=>by
     rw[eN g1,add_assoc];exact(afx j hj).1)
    refine fD.same hi hk (nD (bz:=bz) hf λ j c' hj nh=>(afx j nh).2 c' hj) ?_;simp only[execOp,hX];simp[bo]
 all_goals exact hk.elim
theorem abw{x y:AV}{f:Nat}(hf:f+y.cells.length<=x.cells.length)(j:Nat):
  (rH x f y).cells.length=x.cells.length/\(rH x f y).cells[j]? =if f<=j/\j<f+y.cells.length then y.cells[j- f]? else x.cells[j]? :=by
 unfold rH
 split
 ·rename_i h;obtain⟨rfl,hl⟩:=h;refine⟨hl,?_⟩
  split
  ·simp
  ·rename_i hn;rw[getElem?_eq_none (by omega),getElem?_eq_none (by omega)]
 ·generalize oG:x.cells=xs at*;generalize uv:y.cells=ys at*
  show(xs.take f++ys++xs.drop (f+ys.length)).length=xs.length/\(xs.take f++ys++xs.drop (f+ys.length))[j]? =_;refine⟨by simp;omega,?_⟩
  split
  ·rename_i h;rw[append_assoc,getElem?_append_right (by simp;omega),getElem?_append_left (by simp;omega)];congr 1;simp;omega
  ·rename_i h;by_cases aF:j<f
   ·rw[append_assoc,getElem?_append_left (by simp;omega),getElem?_take,if_pos aF]
   ·rw[getElem?_append_right (by simp;omega),getElem?_drop];congr 1;simp;omega
theorem akf(hi:Inv I L O w)(he:∀t,R I L O (e t) (a.tmps.getD t undef)){t:TypeId}{x y:Operand}(hc:bY P ty (.store t x y)=some ao)(hk:wpOp P ao e O K):
  fD P I L O w (execOp a.eval ⟨d,.store t x y,ty,pos,af,g⟩) K:=by
 simp only[bY,bind_eq_bind,bind_eq_some_iff,Option.some.injEq]at hc;obtain⟨inf,tU,ax,hx,ay,hy,rfl⟩:=hc;have rx:=aq hx he;have ry:=aq hy he;simp only[wpOp]at hk;generalize ax.ev e=A at rx hk;generalize ay.ev e=B at ry hk;generalize hX:a.eval x=X at rx;generalize hY:a.eval y=Y at ry;cases A
 case ptr k len i f=>
  cases hO:O[k]? with
  |none=>simp only[hO]at hk
  |some ob=>
   cases ob with
   |dead=>simp only[hO]at hk
   |own a=>simp only[hO]at hk
   |cZ g=>simp only[hO]at hk
   |nil t' s'=>simp only[hO]at hk
   |live t' s xs=>
    simp only[hO]at hk;obtain⟨hl,aF,hm,oJ,hf,hk⟩:=hk;have:=rx.ib hO hl;subst this;obtain⟨c,⟨lD,g1,dE⟩,g2,g3,g4,g5,g6⟩:=hi.obj k _ _ xs hO;have aBX:k<O.length:=(List.getElem?_eq_some_iff.1 hO).1;have oH:xs[i]? =some (xs.getD i .top):=by simp[List.getD,show i<xs.length by omega]
    obtain⟨g7,g8⟩:=g6 i _ oH;obtain⟨r1,r2⟩:=ry.qG oJ;have zI:=ry.awo oJ;have hYl:Y.cells.toList.length=B.cells.length:=by simp[r1]
    have dm:=adL (s:=s) (show i<xs.length by omega) (show s- 1<s by omega);have azd:xs.length*s<=c.size:=by rw[g2];exact mul_le_mul_right _ g3
    have ko:i*s+f+0+Y.cells.toList.length<=c.size:=by omega
    have bo:=iA (P:=P) (L k).bf (i*s+f) s t' lD Y.cells.toList 0 c w g1 dE ko zI
    have hc2:∀j:Nat,((c.toList.take (i*s+f+0)++Y.cells.toList++c.toList.drop (i*s+f+0+Y.cells.toList.length)).toArray)[j]? =if i*s+f<=j/\j<i*s+f+B.cells.length then Y.cells[j- (i*s+f)]? else c[j]? :=by
     intro j;simp only[getElem?_toArray,add_zero]
     split
     ·rename_i h;rw[append_assoc,getElem?_append_right (by simp;omega),getElem?_append_left (by simp;omega),Array.getElem?_toList];congr 1;simp;omega
     ·rename_i h;by_cases nh:j<i*s+f
      ·rw[append_assoc,getElem?_append_left (by simp;omega),getElem?_take,if_pos nh,Array.getElem?_toList]
      ·rw[getElem?_append_right (by simp;omega),getElem?_drop,Array.getElem?_toList];congr 1;simp;omega
    generalize hC2:(c.toList.take (i*s+f+0)++Y.cells.toList++c.toList.drop (i*s+f+0+Y.cells.toList.length)).toArray=c2 at*;have azf:c2.size=c.size:=by rw[←hC2];simp;omega
    have dY:=hi.put (n:=k) (l:=L k) (e:=t') (s:=s) (xs:=xs.set i (rH (xs.getD i .top) f B)) (O':=O.set k (.live t' s (xs.set i (rH (xs.getD i .top) f B)))) (w':=w.setRow (L k).bf c2)
     (lX aBX _) (by simp) (λ b' _ lP=>setRow_other w _ _ _ lP) rfl rfl rfl (by simp) (.inr ⟨_,_,_,hO,rfl⟩)
     ⟨c2,⟨_,setRow_heap w _ c _ _ _ g1,dE.size azf⟩,by rw[azf,g2],by simpa using g3,g4,g5,by
      intro i' z hz;rw[List.getElem?_set]at hz;by_cases hii:i=i'
      ·subst hii;rw[if_pos rfl,if_pos (by omega)]at hz;cases hz;refine⟨by rw[(abw (by omega) 0).1,g7],λ j q hj=> ?_⟩;rw[(abw (by omega) j).2]at hj;by_cases hj':f<=j/\j<f+B.cells.length
       ·rw[if_pos hj']at hj;obtain⟨u,hu,ho,hr⟩:=r2 _ q hj;refine⟨u,?_,ho,hr⟩;rw[hc2,if_pos (by omega),←hu];congr 1;omega
       ·rw[if_neg hj']at hj;obtain⟨u,hu,ho,hr⟩:=g8 j q hj;refine⟨u,?_,ho,hr⟩;rw[hc2,if_neg (by omega),hu]
      ·rw[if_neg hii]at hz;obtain⟨q1,q2⟩:=g6 i' z hz;refine⟨q1,λ j q hj=> ?_⟩;obtain⟨u,hu,ho,hr⟩:=q2 j q hj;have hjs:j<s:=by rw[←q1];exact(List.getElem?_eq_some_iff.1 hj).1
       refine⟨u,?_,ho,hr⟩;have bn:=anV (i:=i') (i':=i) hjs (λ h=>hii h.symm);rw[hc2,if_neg (by omega),hu]⟩
     (λ _=> .inl ⟨xs,hO,by simp,λ _=>rfl⟩)
    refine⟨_,_,undef,_,_,_,hk,dY,.top _,.inr ⟨?_,rfl⟩⟩;have qp:Y.cells.size=inf.size:=by omega
    simp only[execOp,hX,hY];simp[Instr.storeAt,Instr.sureAddr,storeVar,sizeOf,typeInfo,tU,qp,bo]
 all_goals exact hk.elim
end
end Go.Ab
namespace Go.Ab
theorem Inv.yF{I:du}{L:Nat->Loc}{O O':List ad}{w w':World}{n:Nat}{l:Loc}{g:gJ}(h:Inv I L O w)
  (hO:∀k:Nat,O'[k]? =if k=n then some (.cZ g)else O[k]?) (hlen:O.length<=O'.length)
  (hw:∀b,b<w.heap.size->b≠l.bf->w'.heap[b]? =w.heap[b]?)
  (hos:w'.os=w.os) (an3:w'.tape=w.tape) (abj:w'.output=w.output) (afy:w.heap.size<=w'.heap.size)
  (hl:(O.length<=n/\w.heap.size<=l.bf)∨∃g0,O[n]? =some (.cZ g0)/\g0.mQ=g.mQ/\l.bf=(L n).bf)
  (kV:Ext I L O I (λ k=>if k=n then l else L k) O'->sf I (λ k=>if k=n then l else L k) O' w' l g):
  Good I L O w I (λ k=>if k=n then l else L k) O' w':=by
 have dt:Ext I L O I (λ k=>if k=n then l else L k) O':=by
  refine⟨λ _ _ _ h=>h,hlen,λ k hk e' s' iv hx=> ?_,λ k hk e' s' hx=> ?_,λ k hk a hx=> ?_,λ k hk a hx=> ?_⟩
  ·rw[hO]at hx;by_cases eK:k=n
   ·rw[if_pos eK]at hx;cases hx
   ·rw[if_neg eK]at hx;exact .inl ⟨iv,hx,le_refl _,λ _=>by simp[eK]⟩
  ·rw[hO]at hx;by_cases eK:k=n
   ·rw[if_pos eK]at hx;cases hx
   ·rwa [if_neg eK]at hx
  ·rw[hO]at hx;by_cases eK:k=n
   ·rw[if_pos eK]at hx;cases hx
   ·rw[if_neg eK]at hx;exact⟨⟨a,hx⟩,by simp only[if_neg eK]⟩
  ·rw[hO]at hx;by_cases eK:k=n
   ·subst eK;rw[if_pos rfl]at hx;cases hx;rcases hl with⟨h1,_⟩|⟨g0,h1,h2,h3⟩
    ·omega
    ·exact⟨⟨g0,h1,h2⟩,by simp only[if_true];exact h3⟩
   ·rw[if_neg eK]at hx;exact⟨⟨a,hx,rfl⟩,by simp only[if_neg eK]⟩
 have gA:∀b,(b<w.heap.size/\∃c e z,w.heap[b]? =some (.cells c e z))->w'.heap[b]? =w.heap[b]? :=by
  rintro b ⟨hb,c,e,z,hc⟩;refine hw b hb λ he=> ?_
  rcases hl with⟨_,h1⟩|⟨g0,h1,_,h3⟩
  ·omega
  ·exact(h.gh.ok n g0 h1).no.2 c e z (by rw[←h3,←he];exact hc)
 have lO:∀{b o:Nat} {x:Value},w.cell? ⟨b,o,none⟩=some x->w'.heap[b]? =w.heap[b]? :=by
  intro b o x hx;refine gA b ⟨kL hx,?_⟩;unfold World.cell? at hx
  split at hx
  ·rename_i c e f hh;exact⟨c,e,f,hh⟩
  ·cases hx
 have hlv:∀{k e s:Nat} {xs:List AV},O[k]? =some (.live e s xs)->w'.heap[(L k).bf]? =w.heap[(L k).bf]? :=by
  intro k e s xs hk;obtain⟨c,⟨lD,h1,dE⟩,_⟩:=h.obj k e s xs hk;exact gA _ ⟨(Array.getElem?_eq_some_iff.1 h1).1,c,e,lD,h1⟩
 have fx:∀{k:Nat} {ob:ad},O'[k]? =some ob->(∀g',ob≠ .cZ g')->O[k]? =some ob/\k≠n:=by
  intro k ob hk bn;rw[hO]at hk;by_cases eK:k=n
  ·rw[if_pos eK]at hk;cases hk;exact(bn g rfl).elim
  ·rw[if_neg eK]at hk;exact⟨hk,eK⟩
 have hfx:∀b,b<w.heap.size->¬LB L O b->w'.heap[b]? =w.heap[b]? :=λ b hb hn=>by
  refine hw b hb λ he=> ?_
  rcases hl with⟨_,h1⟩|⟨g0,h1,_,h3⟩
  ·omega
  ·exact hn (.inr (.inr ⟨n,g0,h1,by rw[←h3,he]⟩))
 have how:Own I (λ k=>if k=n then l else L k) O' w':=by
  refine⟨λ k a hk=> ?_,λ k a hk b o v hv=> ?_,λ k a hk b o v hv o'=> ?_,λ k a hk b o v hv m e' s' iv hm hb=> ?_,λ k m a c hk hm b o o' v v' hv km=> ?_,λ k a hk=> ?_⟩
  ·obtain⟨h1,h2⟩:=fx hk (by simp);simp only[if_neg h2];exact h.ow.tree k a h1
  ·obtain⟨h1,h2⟩:=fx hk (by simp);simp only[if_neg h2]at hv;have h3:=h.ow.cell k a h1 b o v hv;rw[←h3];exact World.cell?_of_block (a:=⟨b,o,none⟩) (lO h3)
  ·obtain⟨h1,h2⟩:=fx hk (by simp);simp only[if_neg h2]at hv;exact h.ow.kJ k a h1 b o v hv o'
  ·obtain⟨h1,h2⟩:=fx hk (by simp);obtain⟨h3,h4⟩:=fx hm (by simp);simp only[if_neg h2]at hv;simp only[if_neg h4]at hb;exact h.ow.live k a h1 b o v hv m _ _ _ h3 hb
  ·obtain⟨h1,h2⟩:=fx hk (by simp);obtain⟨h3,h4⟩:=fx hm (by simp);simp only[if_neg h2]at hv;simp only[if_neg h4]at km;exact h.ow.sep k m a c h1 h3 b o o' v v' hv km
  ·obtain⟨h1,h2⟩:=fx hk (by simp);simp only[if_neg h2];obtain⟨S,p1,p2⟩:=h.ow.deep k a h1;refine⟨S,p1.congr λ b hb=> ?_,p2⟩;obtain⟨o,v,hv⟩:=(p2 b).1 hb;exact lO (h.ow.cell k a h1 b o v hv)
 have hgh:Gh I (λ k=>if k=n then l else L k) O' w':=by
  have bf:∀{k:Nat} {g':gJ},k≠n->O[k]? =some (.cZ g')->(L k).bf≠l.bf:=by
   intro k g' eK hk he;rcases hl with⟨_,h1⟩|⟨g0,h1,_,h3⟩
   ·have:=(h.gh.ok k g' hk).no.1;omega
   ·exact eK (h.gh.sep k n _ _ hk h1 (he.trans h3))
  refine⟨λ k g' hk=> ?_,λ k m g' g'' hk hm hb=> ?_⟩
  ·rw[hO]at hk;by_cases eK:k=n
   ·subst eK;rw[if_pos rfl]at hk;cases hk;simp only[if_true];exact kV dt
   ·rw[if_neg eK]at hk;simp only[if_neg eK];exact(h.gh.ok k g' hk).mono rfl (λ _ _ hr=>hr.mono dt) (hw _ (h.gh.ok k g' hk).no.1 (bf eK hk))
  ·rw[hO]at hk hm;by_cases eK:k=n<;>by_cases o6:m=n
   ·omega
   ·subst eK;simp only[if_true,if_neg o6]at hb hm;exact(bf o6 hm hb.symm).elim
   ·subst o6;simp only[if_true,if_neg eK]at hb hk;exact(bf eK hk hb).elim
   ·simp only[if_neg eK,if_neg o6]at hb hk hm;exact h.gh.sep k m _ _ hk hm hb
 refine⟨⟨λ b o x hx=> ?_,λ k e' s' iv hk=> ?_,λ k m e1 s1 xs1 e2 s2 xs2 hk hm hb=> ?_,λ k e1 s1 xs1 o hk=> ?_,h.fix,h.uj hfx (λ _ _ _ h=>h),how,hgh⟩,dt,⟨hos,an3,abj,afy,hfx⟩,?_,λ _ _ _ h=> .inl h⟩
 ·have h1:=h.kJ b o x hx;rw[←h1];exact World.cell?_of_block (a:=⟨b,o,none⟩) (lO h1)
 ·obtain⟨h1,h2⟩:=fx hk (by simp);simp only[if_neg h2];exact(h.obj k e' s' iv h1).congr (hlv h1) λ a x=>R.mono dt
 ·obtain⟨h1,h2⟩:=fx hk (by simp);obtain⟨h3,h4⟩:=fx hm (by simp);simp only[if_neg h2,if_neg h4]at hb;exact h.sep k m _ _ _ _ _ _ h1 h3 hb
 ·obtain⟨h1,h2⟩:=fx hk (by simp);simp only[if_neg h2];exact h.dS k _ _ _ o h1
 ·rintro b (⟨k,e',s',iv,hk,hb⟩|⟨k,a,o,v,hk,hb⟩|⟨k,g',hk,hb⟩)
  ·obtain⟨h1,h2⟩:=fx hk (by simp);simp only[if_neg h2]at hb;exact .inl (.inl ⟨k,_,_,_,h1,hb⟩)
  ·obtain⟨h1,h2⟩:=fx hk (by simp);simp only[if_neg h2]at hb;exact .inl (.inr (.inl ⟨k,a,o,v,h1,hb⟩))
  ·rw[hO]at hk;by_cases eK:k=n
   ·subst eK;simp only[if_true]at hb;rcases hl with⟨_,h1⟩|⟨g0,h1,_,h3⟩
    ·exact .inr (by omega)
    ·exact .inl (.inr (.inr ⟨k,g0,h1,by rw[←h3,hb]⟩))
   ·rw[if_neg eK]at hk;simp only[if_neg eK]at hb;exact .inl (.inr (.inr ⟨k,g',hk,hb⟩))
theorem akH{P:Program}{w:World}(t:TypeId):(Instr.makeMap t none).run P w= .ok (.map (some w.heap.size)) (w.alloc (.map #[] 0)):=by
 simp[Instr.makeMap,newObj,Sem.run,Result.andThen]
theorem ajY{P:Program}{w:World}{t:TypeId}(h:P.underlying t=some .string)(s:ByteArray):(Instr.range t (.string s)).run P w= .ok (.pointer (some ⟨w.heap.size,0,none⟩)) (w.alloc (.stringIter s 0)):=by
 simp[Instr.range,underlying,h,newObj,Sem.run,Result.andThen]
theorem aj1{P:Program}{w:World}{r pos:Nat}{s:ByteArray}(h:w.heap[r]? =some (.stringIter s pos))(t:TypeId):
  (Instr.next (.pointer (some ⟨r,0,none⟩)) true t).run P w=if pos<s.size then .ok (.tuple #[.bool true,goInt pos,.int .i32 (Utf8.decode s pos).1]) {w with heap:=w.heap.set! r (.stringIter s (pos+(Utf8.decode s pos).2))}else .ok (.tuple #[.bool false]) w:=by
 by_cases hp:pos<s.size<;>simp[Instr.next,getObj,setObj,h,hp,Sem.run,Result.andThen]
theorem zk{d:TypeDesc}{a b:Value}(ha:MapKept.IsKey d a)(hb:MapKept.IsKey d b):ahO a b=true↔a=b:=by
 cases d<;>cases a<;>cases b<;>simp_all [MapKept.IsKey,ahO]
theorem nQ{I:du}{L:Nat->Loc}{O:List ad}{d:TypeDesc}{k:Value}(hk:MapKept.IsKey d k):∀(es:List (AV×AV)) (l:List MapEntry) (i:Nat),l.length=es.length->
  (∀(j:Nat) a v,es[j]? =some (a,v)->∃e,l[j]? =some e/\R I L O a e.key/\R I L O v e.val)->(∀p∈es,∃k',p.1= .v k'/\MapKept.IsKey d k')->
  match nB k es i with
  |none=>Instr.findNow d k l i=some none
  |some (j,v)=>∃x,Instr.findNow d k l i=some (some (j,x))/\R I L O v x
 | [],l,i,hl,_,_=>by
   obtain rfl:=List.eq_nil_of_length_eq_zero hl
   rfl
 |(a,v)::es,l,i,hl,hr,zL=>by
  cases l with
  |nil=>simp at hl
  |cons e l=>
   obtain⟨k',h1,h2⟩:=zL (a,v) (by simp);simp only at h1;subst h1;obtain⟨e',h3,h4,h5⟩:=hr 0 (.v k') v rfl;simp at h3;subst h3;have h6:e.key=k':=by cases h4;rfl
   obtain⟨r,hs,avi⟩:=MapKept.sameNow_of_keys hk (show MapKept.IsKey d e.key by rw[h6];exact h2);rw[h6]at avi;by_cases hq:k=k'
   ·have hb:ahO k k'=true:=(zk hk h2).2 hq;have:r=true:=avi.2 hq;subst this;simp only[nB,hb,if_true];exact⟨e.val,by simp[Instr.findNow,hs],h5⟩
   ·have hb:¬ahO k k'=true:=λ h=>hq ((zk hk h2).1 h)
    have:r=false:=by
     cases r with
     |false=>rfl
     |true=>exact(hq (avi.1 rfl)).elim
    subst this;have ih:=nQ hk es l (i+1) (by simpa using hl) (λ j a v hj=>by simpa using hr (j+1) a v (by simpa using hj)) λ p hp=>zL p (by simp[hp])
    simp only[nB,if_neg hb];have hf:Instr.findNow d k (e::l) i=Instr.findNow d k l (i+1):=by simp[Instr.findNow,hs]
    rw[hf];exact ih
section
variable {P:Program} {w:World} {mty kt et:TypeId} {d:TypeDesc} {r clock:Nat} {en:Array MapEntry} {k:Value}
theorem afg(hm:P.underlying mty=some (.map kt et))(hd:P.underlying kt=some d)(hb:w.heap[r]? =some (.map en clock))(hk:MapKept.IsKey d k){z:Value}(hz:(zeroValue et).run P w= .ok z w)
  (hf:Instr.findNow d k en.toList 0=some none) (ok:Bool):(Instr.lookup mty (.map (some r)) k ok).run P w= .ok (if ok then .tuple #[z,.bool false]else z) w:=by
 cases ok<;>simp[Instr.lookup,run_underlying hm,MapKept.run_getObj_map hb,MapKept.run_checkKey hd hk,MapKept.run_findKey hd hf,hz,Result.andThen]
theorem aff(hm:P.underlying mty=some (.map kt et))(hd:P.underlying kt=some d)(hb:w.heap[r]? =some (.map en clock))(hk:MapKept.IsKey d k){j:Nat}{v:Value}
  (hf:Instr.findNow d k en.toList 0=some (some (j,v))) (ok:Bool):(Instr.lookup mty (.map (some r)) k ok).run P w= .ok (if ok then .tuple #[v,.bool true]else v) w:=by
 cases ok<;>simp[Instr.lookup,run_underlying hm,MapKept.run_getObj_map hb,MapKept.run_checkKey hd hk,MapKept.run_findKey hd hf,Result.andThen]
theorem aew(hm:P.underlying mty=some (.map kt et))(hd:P.underlying kt=some d)(hb:w.heap[r]? =some (.map en clock))(hk:MapKept.IsKey d k)(v:Value)
  (hf:Instr.findNow d k en.toList 0=some none):(Instr.mapUpdate mty (.map (some r)) k v).run P w= .ok () {w with heap:=w.heap.setIfInBounds r (.map (en.push {key:=k,val:=v,born:=clock}) (clock+1))}:=by
 simp[Instr.mapUpdate,run_underlying hm,MapKept.run_getObj_map hb,MapKept.run_checkKey hd hk,MapKept.run_findKey hd hf,MapKept.run_setObj_map _ hb,Result.andThen]
theorem aev(hm:P.underlying mty=some (.map kt et))(hd:P.underlying kt=some d)(hb:w.heap[r]? =some (.map en clock))(hk:MapKept.IsKey d k)(v:Value){j:Nat}{e:MapEntry}{u:Value}
  (hf:Instr.findNow d k en.toList 0=some (some (j,u))) (he:en[j]? =some e) (hek:e.key=k):
  (Instr.mapUpdate mty (.map (some r)) k v).run P w= .ok () {w with heap:=w.heap.setIfInBounds r (.map (en.modify j λ e=>{e with key:=k,val:=v}) clock)}:=by
 simp[Instr.mapUpdate,run_underlying hm,MapKept.run_getObj_map hb,MapKept.run_checkKey hd hk,MapKept.run_findKey hd hf,he,hek,MapKept.run_keyThatStays hk,MapKept.run_setObj_map _ hb,Result.andThen]
end
end Go.Ab
namespace Go.Ab
section
variable {P:Program} {I:du} {L:Nat->Loc} {O:List ad} {w:World} {K:AV->List ad->Prop} {e:Env} {a:Act}
variable {d:Option Tmp} {ty:TypeId} {pos:String} {af:Array Edge} {g:Option (Nat×Bool)} {ao:ez}
theorem R.tu{n:Nat}{x:Value}{q:gJ}(h:R I L O (.own n) x)(hO:O[n]? =some (.cZ q)):x=q.val (L n).bf:=by
 cases h with
 |dW _ b h1=>rw[hO]at h1;cases h1
 |gW _ q' h1=>rw[hO]at h1;cases h1;rfl
 |eR _ _ _ _ h1=>exact(h1 _ hO).elim
theorem KD.key{u:TypeDesc}{c:KD}(h:KD.of u=some c){k:Value}(hk:c.ok k=true):MapKept.IsKey u k:=by
 cases u<;>simp[KD.of]at h<;>subst h<;>cases k<;>simp_all [KD.ok,MapKept.IsKey]
theorem KD.keys{u:TypeDesc}{c:KD}(h:KD.of u=some c){es:List (AV×AV)}(hk:c.all es=true):∀p∈es,∃k',p.1= .v k'/\MapKept.IsKey u k':=by
 intro p hp;have:=List.all_eq_true.1 hk p hp
 split at this
 ·rename_i k hq;exact⟨k,hq,KD.key h this⟩
 ·cases this
theorem afc{k:Value}:∀(es:List (AV×AV)) (i j:Nat) (v:AV),nB k es i=some (j,v)->∃q k',j=i+q/\es[q]? =some (.v k',v)/\ahO k k'=true
 | [],_,_,_,h=>by simp[nB]at h
 |(p,u)::es,i,j,v,h=>by
  have step:nB k es (i+1)=some (j,v)->∃q k',j=i+q/\((p,u)::es)[q]? =some (.v k',v)/\ahO k k'=true:=λ h=>by
   obtain⟨q,k',h1,h2,h3⟩:=afc es (i+1) j v h;exact⟨q+1,k',by omega,by simpa using h2,h3⟩
  unfold nB at h
  split at h
  ·rename_i heq;simp at heq
  ·rename_i k' v' es' heq;cases heq
   split at h
   ·rename_i hq;cases h;exact⟨0,k',by omega,rfl,hq⟩
   ·exact step h
  ·rename_i heq;cases heq;exact step h
theorem aki(hi:Inv I L O w){t:TypeId}{r:Option Operand}(hc:bY P ty (.makeMap t r)=some ao)(hk:wpOp P ao e O K):fD P I L O w (execOp a.eval ⟨d,.makeMap t r,ty,pos,af,g⟩) K:=by
 cases r with
 |some _=>simp[bY]at hc
 |none=>
  simp only[bY,Option.some.injEq]at hc;subst hc
  have hg:=hi.yF (O':=O++ [.cZ (.mp [])]) (w':=w.alloc (.map #[] 0)) (n:=O.length) (l:=Loc.at w.heap.size 0) (g:= .mp [])
   (λ k=>by
    by_cases h:k=O.length
    ·subst h;simp
    ·rw[if_neg h];by_cases hl:k<O.length
     ·exact getElem?_append_left hl
     ·rw[getElem?_eq_none (l:=O++ [ad.cZ (gJ.mp [])]) (by simp;omega),getElem?_eq_none (by omega)])
   (by simp) (λ b hb _=>(MapKept.heap_alloc w _).2 b hb) rfl rfl rfl (by simp) (.inl ⟨le_refl _,le_refl _⟩) (λ _=>⟨#[],0,(MapKept.heap_alloc w _).1,rfl,by simp⟩)
  have hr:=R.gW (I:=I) (L:=λ k=>if k=O.length then Loc.at w.heap.size 0 else L k) (O:=O++ [.cZ (.mp [])]) O.length (.mp []) (by simp);refine⟨_,_,_,_,_,_,hk,hg,hr,.inl ?_⟩;simp[execOp,akH,gJ.val,gJ.mQ,Result.andThen]
theorem sM{i:Nat}(h:ei O i=true):∃t s x,O[i]? =some (.live t s [x])/\s≠1:=by
 unfold ei at h
 split at h
 ·rename_i t s x hO;exact⟨t,s,x,hO,by simpa using h⟩
 ·cases h
theorem qX{i:Nat}{v:Value}(h:ei O i=true)(hr:R I L O (.ptr i 1 0 0) v):v= .pointer (some ⟨(L i).bf,0,none⟩):=by
 obtain⟨t,s,x,hO,_⟩:=sM h;have:=hr.ib hO rfl;simpa using this
theorem afk(hi:Inv I L O w){i j:Nat}(h:ei O i=true)(k:ei O j=true):(sameAddr ⟨(L i).bf,0,none⟩ ⟨(L j).bf,0,none⟩).run P w= .ok (decide (i=j)) w:=by
 obtain⟨t,s,x,hO,hs⟩:=sM h;obtain⟨t',s',x',pN,hs'⟩:=sM k;by_cases hij:i=j
 ·subst hij;rw[run_sameAddr_same];simp
 ·obtain⟨c,⟨m,h1,hm⟩,_⟩:=hi.obj i _ _ _ hO;obtain⟨c',⟨m',h1',xB⟩,_⟩:=hi.obj j _ _ _ pN;have e1:m=(0,0):=by rcases hm with h|h;exact h;exact(hs h.2).elim
  have e2:m'=(0,0):=by rcases xB with h|h;exact h;exact(hs' h.2).elim
  subst e1;subst e2;rw[run_sameAddr_other w (λ h=>hij (hi.sep i j _ _ _ _ _ _ hO pN (by simpa using h))) h1 h1'];simp[hij]
theorem u7{t:TypeId}(h:v5 P t=true):∃el i,P.underlying t=some (.pointer el)/\P.info? el=some i/\i.size≠0:=by
 unfold v5 at h
 split at h
 ·rename_i el ht
  split at h
  ·rename_i i hi
   exact⟨el,i,ht,hi,by have:0<i.size:=by simpa using h
                       omega⟩
  ·cases h
 ·cases h
theorem abK{t el:TypeId}{i:TypeInfo}(ht:P.underlying t=some (.pointer el))(fu:P.info? el=some i)(hs:i.size≠0){x y:Addr}{b:Bool}(h:(sameAddr x y).run P w= .ok b w):
  (Op.equal t (.pointer (some x)) (.pointer (some y))).run P w= .ok b w:=by
 have e1:Op.equal t (.pointer (some x)) (.pointer (some y))=Op.equalIn (9999+1) t (.pointer (some x)) (.pointer (some y)):=rfl;rw[e1,Op.equalIn];simp[run_underlying ht,sizeOf,typeInfo,fu,hs,h]
theorem vD(hi:Inv I L O w){kt el:TypeId}{inf:TypeInfo}(ht:P.underlying kt=some (.pointer el))(fu:P.info? el=some inf)(hs:inf.size≠0){j:Nat}(hj:ei O j=true):∀(es:List (AV×AV)) (l:List MapEntry) (i:Nat),l.length=es.length->
  (∀(j:Nat) a v,es[j]? =some (a,v)->∃e,l[j]? =some e/\R I L O a e.key/\R I L O v e.val)->jc O es=true->
  match ic j es i with
  |none=>(Instr.findAsking kt (.pointer (some ⟨(L j).bf,0,none⟩)) l i).run P w= .ok none w
  |some (q,v)=>∃x,(Instr.findAsking kt (.pointer (some ⟨(L j).bf,0,none⟩)) l i).run P w= .ok (some (q,x)) w/\R I L O v x
 | [],l,i,hl,_,_=>by
   obtain rfl:=List.eq_nil_of_length_eq_zero hl;simp[ic,Instr.findAsking]
 |(a,v)::es,l,i,hl,hr,hk=>by
  cases l with
  |nil=>simp at hl
  |cons e l=>
   obtain⟨e',h3,h4,h5⟩:=hr 0 a v rfl;simp at h3;subst h3;simp only[jc,List.all_cons,Bool.and_eq_true]at hk;obtain⟨vj,hk2⟩:=hk
   split at vj
   ·rename_i k;have hv:=qX vj h4;have hq:=abK (P:=P) (w:=w) ht fu hs (afk (P:=P) hi hj vj);by_cases hjk:j=k
    ·subst hjk;simp only[ic,if_true];refine⟨e.val,?_,h5⟩;unfold Instr.findAsking;simp[hv,hq]
    ·have ih:=vD hi ht fu hs hj es l (i+1) (by simpa using hl) (λ q a v hq=>by simpa using hr (q+1) a v (by simpa using hq)) hk2;simp only[ic,if_neg hjk]
     have hf:(Instr.findAsking kt (.pointer (some ⟨(L j).bf,0,none⟩)) (e::l) i).run P w=(Instr.findAsking kt (.pointer (some ⟨(L j).bf,0,none⟩)) l (i+1)).run P w:=by
      conv=>lhs;unfold Instr.findAsking
      simp[hv,hq,hjk]
     rw[hf];exact ih
   ·cases vj
theorem iZ{kt el:TypeId}(ht:P.underlying kt=some (.pointer el))(k:Value)(l:List MapEntry):(Instr.findKey kt k l).run P w=(Instr.findAsking kt k l 0).run P w:=by
 cases l with
 |nil=>simp[Instr.findKey,Instr.findAsking,run_underlying ht,Instr.findNow]
 |cons e l=>simp[Instr.findKey,run_underlying ht,Instr.findNow,Instr.sameNow]
theorem iB{kt el:TypeId}(ht:P.underlying kt=some (.pointer el))(a:Option Addr)(e:Bool):(Instr.checkKey e 10000 kt (.pointer a)).run P w= .ok () w:=by
 show(Instr.checkKey e (9999+1) kt (.pointer a)).run P w=_;unfold Instr.checkKey;simp[run_underlying ht]
theorem ae0{k:Nat}:∀(es:List (AV×AV)) (i j:Nat) (v:AV),ic k es i=some (j,v)->∃q l m f,j=i+q/\es[q]? =some (.ptr k l m f,v)
 | [],_,_,_,h=>by simp[ic]at h
 |(p,u)::es,i,j,v,h=>by
  have step:ic k es (i+1)=some (j,v)->∃q l m f,j=i+q/\((p,u)::es)[q]? =some (.ptr k l m f,v):=λ h=>by
   obtain⟨q,l,m,f,h1,h2⟩:=ae0 es (i+1) j v h;exact⟨q+1,l,m,f,by omega,by simpa using h2⟩
  unfold ic at h
  split at h
  ·rename_i heq;simp at heq
  ·rename_i k' _ _ _ v' es' heq;cases heq
   split at h
   ·rename_i hq;subst hq;cases h;exact⟨0,_,_,_,by omega,rfl⟩
   ·exact step h
  ·rename_i heq;cases heq;exact step h
theorem ahN{es:List (AV×AV)}(h:jc O es=true){q:Nat}{p v:AV}(hq:es[q]? =some (p,v)):∃k,p= .ptr k 1 0 0/\ei O k=true:=by
 have:=List.all_eq_true.1 h _ (mem_of_getElem? hq);simp only at this
 split at this
 ·exact⟨_,rfl,this⟩
 ·cases this
theorem afe(hi:Inv I L O w){n:Nat}{es:List (AV×AV)}{en:Array MapEntry}{clock:Nat}(hO:O[n]? =some (.cZ (.mp es)))(b1:w.heap[(L n).bf]? =some (.map en clock))
  (es':List (AV×AV)) (en':Array MapEntry) (vz:Nat) (h1:en'.size=es'.length) (h2:∀(i:Nat) p q,es'[i]? =some (p,q)->∃e,en'[i]? =some e/\R I L O p e.key/\R I L O q e.val):
  Good I L O w I (λ k=>if k=n then L n else L k) (O.set n (.cZ (.mp es'))) {w with heap:=w.heap.setIfInBounds (L n).bf (.map en' vz)}:=by
 have hn:=(List.getElem?_eq_some_iff.1 hO).1
 exact hi.yF (n:=n) (l:=L n) (g:= .mp es') (λ k=>by
   by_cases h:k=n
   ·subst h;rw[if_pos rfl];exact getElem?_set_self hn
   ·rw[if_neg h];exact getElem?_set_ne λ q=>h q.symm)
  (by simp) (λ b _ bn=>(MapKept.heap_set b1).2 b bn) rfl rfl rfl (by simp) (.inr ⟨_,hO,rfl,rfl⟩)
  (λ dt=>⟨en',vz,(MapKept.heap_set b1).1,h1,λ i p q hx=>by
   obtain⟨e,h3,h4,h5⟩:=h2 i p q hx;exact⟨e,h3,h4.mono dt,h5.mono dt⟩⟩)
theorem amG(hi:Inv I L O w)(he:∀t,R I L O (e t) (a.tmps.getD t undef)){t kt et:TypeId}(ht:P.underlying t=some (.map kt et))(vo:v5 P kt=true){m k:Operand}{ok:Bool}{s b:Nat}{z:AV}(hz:m7 P et=some (s,b,z)){am ak:aI}(hm:bH m=some am)(xg:bH k=some ak)
  (hk:wpOp P (.aa2 ok z am ak) e O K):fD P I L O w (execOp a.eval ⟨d,.lookup t m k ok,ty,pos,af,g⟩) K:=by
 obtain⟨el,inf,hpt,fu,qp⟩:=u7 vo;obtain⟨i,z0,h1,h2,h3,rfl,rfl,h4,h5,h6,h7⟩:=e8 hz;have rm:=aq hm he;have rk:=aq xg he;simp only[wpOp]at hk
 split at hk
 ·rename_i n j qm qk
  split at hk
  ·rename_i es hO;obtain⟨k1,k2,k3⟩:=hk;rw[qm]at rm;rw[qk]at rk;have em:=rm.tu hO;have ek:=qX k1 rk;obtain⟨en,clock,b1,b2,b3⟩:=hi.gh.ok n _ hO;have hfm:=vD (P:=P) hi hpt fu qp k1 es en.toList 0 (by simpa using b2) (λ j p v hj=>by simpa using b3 j p v hj) k2;have hzr:(zeroValue et).run P w= .ok z0 w:=by simp[zeroValue,typeInfo,h1,h2]
   cases hq:ic j es 0 with
   |none=>
    rw[hq]at hfm k3;have rz:R I L O z z0:=eO h3
    have bo:(Instr.lookup t (.map (some (L n).bf)) (.pointer (some ⟨(L j).bf,0,none⟩)) ok).run P w= .ok (if ok then .tuple #[z0,.bool false]else z0) w:=by
     cases ok<;>simp[Instr.lookup,run_underlying ht,MapKept.run_getObj_map b1,iB hpt,iZ hpt,hfm,hzr,Result.andThen]
    cases ok with
    |false=>exact .same hi k3 rz (by simp[execOp,em,ek,gJ.val,gJ.mQ,bo,Result.andThen])
    |true=>
     refine .same hi k3 (y:= .tuple #[z0,.bool false]) (.a9 _ _ rfl λ j c x hc hx=> ?_) (by simp[execOp,em,ek,gJ.val,gJ.mQ,bo,Result.andThen]);rcases j with _|_|j<;>simp at hc hx<;>subst hc<;>subst hx
     ·exact rz
     ·exact .v _ rfl
   |some p=>
    obtain⟨q,v⟩:=p;rw[hq]at hfm k3;obtain⟨x,hf,rx⟩:=hfm
    have bo:(Instr.lookup t (.map (some (L n).bf)) (.pointer (some ⟨(L j).bf,0,none⟩)) ok).run P w= .ok (if ok then .tuple #[x,.bool true]else x) w:=by
     cases ok<;>simp[Instr.lookup,run_underlying ht,MapKept.run_getObj_map b1,iB hpt,iZ hpt,hf,Result.andThen]
    cases ok with
    |false=>exact .same hi k3 rx (by simp[execOp,em,ek,gJ.val,gJ.mQ,bo,Result.andThen])
    |true=>
     refine .same hi k3 (y:= .tuple #[x,.bool true]) (.a9 _ _ rfl λ j c x hc hx=> ?_) (by simp[execOp,em,ek,gJ.val,gJ.mQ,bo,Result.andThen]);rcases j with _|_|j<;>simp at hc hx<;>subst hc<;>subst hx
     ·exact rx
     ·exact .v _ rfl
  ·exact hk.elim
 ·exact hk.elim
theorem amD(hi:Inv I L O w)(he:∀t,R I L O (e t) (a.tmps.getD t undef)){t kt et:TypeId}(ht:P.underlying t=some (.map kt et))(vo:v5 P kt=true){m k v:Operand}{am ak av:aI}(hm:bH m=some am)(xg:bH k=some ak)(hv:bH v=some av)
  (hk:wpOp P (.kE am ak av) e O K):fD P I L O w (execOp a.eval ⟨d,.mapUpdate t m k v,ty,pos,af,g⟩) K:=by
 obtain⟨el,inf,hpt,fu,qp⟩:=u7 vo;have rm:=aq hm he;have rk:=aq xg he;have rv:=aq hv he;simp only[wpOp]at hk
 split at hk
 ·rename_i n j qm qk
  split at hk
  ·rename_i es hO;obtain⟨k1,k2,k3⟩:=hk;rw[qm]at rm;rw[qk]at rk;have em:=rm.tu hO;have ek:=qX k1 rk;rw[ek]at rk;obtain⟨en,clock,b1,b2,b3⟩:=hi.gh.ok n _ hO;have hfm:=vD (P:=P) hi hpt fu qp k1 es en.toList 0 (by simpa using b2) (λ j p v hj=>by simpa using b3 j p v hj) k2;cases hq:ic j es 0 with
   |none=>
    rw[hq]at hfm;have hms:Go.Ab.kE j (av.ev e) es=es++ [(.ptr j 1 0 0,av.ev e)]:=by unfold Go.Ab.kE;rw[hq]
    rw[hms]at k3
    have bo:(Instr.mapUpdate t (.map (some (L n).bf)) (.pointer (some ⟨(L j).bf,0,none⟩)) (a.eval v)).run P w= .ok () {w with heap:=w.heap.setIfInBounds (L n).bf (.map (en.push {key:= .pointer (some ⟨(L j).bf,0,none⟩),val:=a.eval v,born:=clock}) (clock+1))}:=by
     simp[Instr.mapUpdate,run_underlying ht,MapKept.run_getObj_map b1,iB hpt,iZ hpt,hfm,MapKept.run_setObj_map _ b1,Result.andThen]
    refine⟨_,_,undef,_,_,_,k3,afe hi hO b1 _ (en.push ⟨.pointer (some ⟨(L j).bf,0,none⟩),a.eval v,clock⟩) (clock+1) (by simp[b2]) (λ i p q hx=> ?_),.a9 _ _ rfl (by simp),.inr ⟨?_,rfl⟩⟩;rotate_left
    ·simp[execOp,em,ek,gJ.val,gJ.mQ,bo,Result.andThen]
    ·by_cases eH:i<es.length
     ·rw[getElem?_append_left eH]at hx;obtain⟨e',h3,h4,h5⟩:=b3 i p q hx;exact⟨e',by rw[Array.getElem?_push];rw[if_neg (by omega)];exact h3,h4,h5⟩
     ·rw[getElem?_append_right (by omega)]at hx;cases hz:i- es.length with
      |succ z=>rw[hz]at hx;simp at hx
      |zero=>
       rw[hz]at hx;simp at hx;obtain⟨rfl,rfl⟩:=hx;exact⟨⟨.pointer (some ⟨(L j).bf,0,none⟩),a.eval v,clock⟩,by rw[Array.getElem?_push];rw[if_pos (by omega)],rk,rv⟩
   |some p=>
    obtain⟨q,u0⟩:=p;rw[hq]at hfm;obtain⟨x0,hf,_⟩:=hfm;obtain⟨q0,l0,m0,f0,hj,hes⟩:=ae0 es 0 q u0 hq;obtain rfl:q=q0:=by omega
    obtain⟨kk,aB0,aBZ⟩:=ahN k2 hes;cases aB0;obtain⟨e0,h3,h4,_⟩:=b3 q _ _ hes;have hke:e0.key= .pointer (some ⟨(L j).bf,0,none⟩):=qX aBZ h4;have hms:Go.Ab.kE j (av.ev e) es=es.set q (.ptr j 1 0 0,av.ev e):=by unfold Go.Ab.kE;rw[hq]
    rw[hms]at k3
    have ays:(Instr.keyThatStays (.pointer (some ⟨(L j).bf,0,none⟩)) (.pointer (some ⟨(L j).bf,0,none⟩))).run P w= .ok (.pointer (some ⟨(L j).bf,0,none⟩)) w:=by
     simp[Instr.keyThatStays,Instr.sameBits]
    have bo:(Instr.mapUpdate t (.map (some (L n).bf)) (.pointer (some ⟨(L j).bf,0,none⟩)) (a.eval v)).run P w= .ok () {w with heap:=w.heap.setIfInBounds (L n).bf (.map (en.modify q λ e=>{e with key:= .pointer (some ⟨(L j).bf,0,none⟩),val:=a.eval v}) clock)}:=by
     simp[Instr.mapUpdate,run_underlying ht,MapKept.run_getObj_map b1,iB hpt,iZ hpt,hf,h3,hke,ays,MapKept.run_setObj_map _ b1,Result.andThen]
    refine⟨_,_,undef,_,_,_,k3,afe hi hO b1 _ (en.modify q λ e=>{e with key:= .pointer (some ⟨(L j).bf,0,none⟩),val:=a.eval v}) clock (by simp[b2]) (λ i p q' hx=> ?_),.a9 _ _ rfl (by simp),.inr ⟨?_,rfl⟩⟩;rotate_left
    ·simp[execOp,em,ek,gJ.val,gJ.mQ,bo,Result.andThen]
    ·by_cases hij:i=q
     ·subst hij;have aF:=(List.getElem?_eq_some_iff.1 hes).1;rw[getElem?_set_self aF]at hx;cases hx;exact⟨{e0 with key:= .pointer (some ⟨(L j).bf,0,none⟩),val:=a.eval v},by rw[Array.getElem?_modify];simp[h3],rk,rv⟩
     ·rw[getElem?_set_ne (λ q=>hij q.symm)]at hx;obtain⟨e',h3',h4',h5'⟩:=b3 i p q' hx;exact⟨e',by rw[Array.getElem?_modify];simp[h3',Ne.symm hij],h4',h5'⟩
  ·exact hk.elim
 ·exact hk.elim
theorem ake(hi:Inv I L O w)(he:∀t,R I L O (e t) (a.tmps.getD t undef)){t:TypeId}{x:Operand}(hc:bY P ty (.range t x)=some ao)(hk:wpOp P ao e O K):fD P I L O w (execOp a.eval ⟨d,.range t x,ty,pos,af,g⟩) K:=by
 simp only[bY]at hc
 split at hc
 ·rename_i ht;simp only[bind_eq_bind,bind_eq_some_iff,Option.some.injEq]at hc;obtain⟨ax,hx,rfl⟩:=hc;have rx:=aq hx he;simp only[wpOp]at hk
  split at hk
  ·rename_i s hs;rw[hs]at rx;have hv:=rx.exact
   have hg:=hi.yF (O':=O++ [.cZ (.it s 0)]) (w':=w.alloc (.stringIter s 0)) (n:=O.length) (l:=Loc.at w.heap.size 0) (g:= .it s 0)
    (λ k=>by
     by_cases h:k=O.length
     ·subst h;rw[if_pos rfl];simp
     ·rw[if_neg h];by_cases h2:k<O.length
      ·rw[getElem?_append_left h2]
      ·rw[getElem?_eq_none (by simp;omega),getElem?_eq_none (by omega)])
    (by simp) (λ b hb _=>heap_alloc_old w _ b hb) rfl rfl rfl (by rw[World.size_alloc];exact le_succ _) (.inl ⟨le_refl _,le_refl _⟩)
    (λ _=>by
     show(w.alloc (.stringIter s 0)).heap[(Loc.at w.heap.size 0).bf]? =_;exact heap_alloc_new w _)
   refine⟨_,_,.pointer (some ⟨w.heap.size,0,none⟩),_,_,_,hk,hg,?_,.inl ?_⟩
   ·have:=R.gW (I:=I) (L:=λ k=>if k=O.length then Loc.at w.heap.size 0 else L k) (O:=O++ [.cZ (.it s 0)]) O.length (.it s 0) (by simp);simpa [gJ.val,gJ.mQ,Loc.at]using this
   ·have bo:=ajY (P:=P) (w:=w) ht s;simp only[execOp,hv];rw[Sem.run_bind,bo];rfl
  ·exact hk.elim
 ·cases hc
theorem akg(hi:Inv I L O w)(he:∀t,R I L O (e t) (a.tmps.getD t undef)){x:Operand}{is:Bool}(hc:bY P ty (.next x is)=some ao)(hk:wpOp P ao e O K):fD P I L O w (execOp a.eval ⟨d,.next x is,ty,pos,af,g⟩) K:=by
 cases is with
 |false=>simp[bY]at hc
 |true=>
  simp only[bY,bind_eq_bind,bind_eq_some_iff,Option.some.injEq]at hc;obtain⟨ax,hx,rfl⟩:=hc;have rx:=aq hx he;simp only[wpOp]at hk
  split at hk
  ·rename_i n hn
   split at hk
   ·rename_i s pos' hO;rw[hn]at rx;have hv:=rx.tu hO;have hb:w.heap[(L n).bf]? =some (.stringIter s pos'):=hi.gh.ok n _ hO;have hnl:=(List.getElem?_eq_some_iff.1 hO).1;have bo:=aj1 (P:=P) hb ty;by_cases hp:pos'<s.size
    ·rw[if_pos hp]at bo;have pR:=(Array.getElem?_eq_some_iff.1 hb).1
     have hg:=hi.yF (n:=n) (l:=L n) (g:= .it s (pos'+(Utf8.decode s pos').2)) (O':=O.set n (.cZ (.it s (pos'+(Utf8.decode s pos').2)))) (w':={w with heap:=w.heap.set! (L n).bf (.stringIter s (pos'+(Utf8.decode s pos').2))})
      (λ k=>by
       by_cases h:k=n
       ·subst h;rw[if_pos rfl];exact getElem?_set_self hnl
       ·rw[if_neg h];exact getElem?_set_ne λ q=>h q.symm)
      (by simp) (λ b _ bn=>by simp[Array.set!,Ne.symm bn]) rfl rfl rfl (by simp) (.inr ⟨_,hO,rfl,rfl⟩)
      (λ _=>by
       show((w.heap.set! (L n).bf _))[(L n).bf]? =_;simp[pR])
     refine⟨_,_,.tuple #[.bool true,goInt pos',.int .i32 (Utf8.decode s pos').1],_,_,_,hk.1 hp,hg,?_,.inl ?_⟩
     ·refine .a9 _ _ rfl λ j c x hc hx=> ?_
      rcases j with _|_|_|j<;>simp at hc hx<;>subst hc<;>subst hx<;>exact .v _ rfl
     ·simp only[execOp,hv,gJ.val,gJ.mQ];simp at bo⊢;rw[bo];rfl
    ·rw[if_neg hp]at bo;refine .same hi (hk.2 hp) (y:= .tuple #[.bool false]) (.a9 _ _ rfl λ j c x hc hx=> ?_) ?_
     ·rcases j with _|j<;>simp at hc hx<;>subst hc<;>subst hx<;>exact .v _ rfl
     ·simp only[execOp,hv,gJ.val,gJ.mQ];simp at bo⊢;rw[bo];rfl
   ·exact hk.elim
  ·exact hk.elim
theorem amJ(hi:Inv I L O w)(he:∀t,R I L O (e t) (a.tmps.getD t undef)){t:TypeId}{m k:Operand}{ok:Bool}(hc:bY P ty (.lookup t m k ok)=some ao)(hk:wpOp P ao e O K):fD P I L O w (execOp a.eval ⟨d,.lookup t m k ok,ty,pos,af,g⟩) K:=by
 simp only[bY]at hc
 split at hc
 ·rename_i kt et ht
  split at hc
  ·rename_i vo;simp only[bind_eq_bind,bind_eq_some_iff,Option.some.injEq]at hc;obtain⟨⟨s,b,z⟩,hz,am,hm,ak,xg,rfl⟩:=hc;exact amG hi he ht vo hz hm xg hk
  simp only[bind_eq_bind,bind_eq_some_iff,Option.some.injEq]at hc;obtain⟨u,hu,c,hcd,⟨s,b,z⟩,hz,am,hm,ak,xg,rfl⟩:=hc;obtain⟨i,z0,h1,h2,h3,rfl,rfl,h4,h5,h6,h7⟩:=e8 hz;have rm:=aq hm he;have rk:=aq xg he;simp only[wpOp]at hk
  split at hk
  ·rename_i n kv qm qk
   split at hk
   ·rename_i es hO;obtain⟨k1,k2,k3⟩:=hk;rw[qm]at rm;rw[qk]at rk;have em:=rm.tu hO;have ek:a.eval k=kv:=by cases rk;rfl
    obtain⟨en,clock,b1,b2,b3⟩:=hi.gh.ok n _ hO;have zL:=KD.key hcd k1;have hfm:=nQ (I:=I) (L:=L) (O:=O) zL es en.toList 0 (by simpa using b2) (λ j p v hj=>by simpa using b3 j p v hj) (KD.keys hcd k2);have hzr:(zeroValue et).run P w= .ok z0 w:=by simp[zeroValue,typeInfo,h1,h2]
    cases hq:nB kv es 0 with
    |none=>
     rw[hq]at hfm k3;have bo:=afg ht hu b1 zL hzr hfm ok;have rz:R I L O z z0:=eO h3;cases ok with
     |false=>exact .same hi k3 rz (by simp[execOp,em,ek,gJ.val,gJ.mQ,bo,Result.andThen])
     |true=>
      refine .same hi k3 (y:= .tuple #[z0,.bool false]) (.a9 _ _ rfl λ j c x hc hx=> ?_) (by simp[execOp,em,ek,gJ.val,gJ.mQ,bo,Result.andThen]);rcases j with _|_|j<;>simp at hc hx<;>subst hc<;>subst hx
      ·exact rz
      ·exact .v _ rfl
    |some p=>
     obtain⟨j,v⟩:=p;rw[hq]at hfm k3;obtain⟨x,hf,rx⟩:=hfm;have bo:=aff ht hu b1 zL hf ok;cases ok with
     |false=>exact .same hi k3 rx (by simp[execOp,em,ek,gJ.val,gJ.mQ,bo,Result.andThen])
     |true=>
      refine .same hi k3 (y:= .tuple #[x,.bool true]) (.a9 _ _ rfl λ j c x hc hx=> ?_) (by simp[execOp,em,ek,gJ.val,gJ.mQ,bo,Result.andThen]);rcases j with _|_|j<;>simp at hc hx<;>subst hc<;>subst hx
      ·exact rx
      ·exact .v _ rfl
   ·exact hk.elim
  ·exact hk.elim
 ·cases hc
theorem aeU(hi:Inv I L O w)(he:∀t,R I L O (e t) (a.tmps.getD t undef)){t:TypeId}{m k v:Operand}(hc:bY P ty (.mapUpdate t m k v)=some ao)(hk:wpOp P ao e O K):fD P I L O w (execOp a.eval ⟨d,.mapUpdate t m k v,ty,pos,af,g⟩) K:=by
 simp only[bY]at hc
 split at hc
 ·rename_i kt et ht
  split at hc
  ·rename_i vo;simp only[bind_eq_bind,bind_eq_some_iff,Option.some.injEq]at hc;obtain⟨am,hm,ak,xg,av,hv,rfl⟩:=hc;exact amD hi he ht vo hm xg hv hk
  simp only[bind_eq_bind,bind_eq_some_iff,Option.some.injEq]at hc;obtain⟨u,hu,c,hcd,am,hm,ak,xg,av,hv,rfl⟩:=hc;have rm:=aq hm he;have rk:=aq xg he;have rv:=aq hv he;simp only[wpOp]at hk
  split at hk
  ·rename_i n kv qm qk
   split at hk
   ·rename_i es hO;obtain⟨k1,k2,k3⟩:=hk;rw[qm]at rm;rw[qk]at rk;have em:=rm.tu hO;have ek:a.eval k=kv:=by cases rk;rfl
    rw[ek]at rk;obtain⟨en,clock,b1,b2,b3⟩:=hi.gh.ok n _ hO;have hn:=(List.getElem?_eq_some_iff.1 hO).1;have zL:=KD.key hcd k1;have hfm:=nQ (I:=I) (L:=L) (O:=O) zL es en.toList 0 (by simpa using b2) (λ j p v hj=>by simpa using b3 j p v hj) (KD.keys hcd k2)
    have dA:∀(es':List (AV×AV)) (en':Array MapEntry) (vz:Nat),en'.size=es'.length->(∀(i:Nat) p q,es'[i]? =some (p,q)->∃e,en'[i]? =some e/\R I L O p e.key/\R I L O q e.val)->
      Good I L O w I (λ k=>if k=n then L n else L k) (O.set n (.cZ (.mp es'))) {w with heap:=w.heap.setIfInBounds (L n).bf (.map en' vz)}:=λ es' en' vz h1 h2=>
     hi.yF (n:=n) (l:=L n) (g:= .mp es') (λ k=>by
       by_cases h:k=n
       ·subst h;rw[if_pos rfl];exact getElem?_set_self hn
       ·rw[if_neg h];exact getElem?_set_ne λ q=>h q.symm)
       (by simp) (λ b _ bn=>(MapKept.heap_set b1).2 b bn) rfl rfl rfl (by simp) (.inr ⟨_,hO,rfl,rfl⟩)
       (λ dt=>⟨en',vz,(MapKept.heap_set b1).1,h1,λ i p q hx=>by
        obtain⟨e,h3,h4,h5⟩:=h2 i p q hx;exact⟨e,h3,h4.mono dt,h5.mono dt⟩⟩)
    cases hq:nB kv es 0 with
    |none=>
     rw[hq]at hfm;have hms:Go.Ab.pK kv (av.ev e) es=es++ [(.v kv,av.ev e)]:=by unfold Go.Ab.pK;rw[hq]
     rw[hms]at k3;have bo:=aew ht hu b1 zL (a.eval v) hfm;refine⟨_,_,undef,_,_,_,k3,dA _ (en.push ⟨kv,a.eval v,clock⟩) (clock+1) (by simp[b2]) (λ i p q hx=> ?_),.a9 _ _ rfl (by simp),.inr ⟨?_,rfl⟩⟩;rotate_left
     ·simp[execOp,em,ek,gJ.val,gJ.mQ,bo,Result.andThen]
     ·by_cases eH:i<es.length
      ·rw[getElem?_append_left eH]at hx;obtain⟨e',h3,h4,h5⟩:=b3 i p q hx;exact⟨e',by rw[Array.getElem?_push];rw[if_neg (by omega)];exact h3,h4,h5⟩
      ·rw[getElem?_append_right (by omega)]at hx;cases hz:i- es.length with
       |succ z=>rw[hz]at hx;simp at hx
       |zero=>
        rw[hz]at hx;simp at hx;obtain⟨rfl,rfl⟩:=hx;exact⟨⟨kv,a.eval v,clock⟩,by rw[Array.getElem?_push];rw[if_pos (by omega)],rk,rv⟩
    |some p=>
     obtain⟨j,u0⟩:=p;rw[hq]at hfm;obtain⟨x0,hf,_⟩:=hfm;obtain⟨q0,k',hj,hes,hkb⟩:=afc es 0 j u0 hq;obtain rfl:j=q0:=by omega
     obtain⟨e0,h3,h4,_⟩:=b3 j _ _ hes
     have aB1:MapKept.IsKey u k':=by
      obtain⟨k'',h7,h8⟩:=KD.keys hcd k2 _ (mem_of_getElem? hes);cases h7;exact h8
     have hke:e0.key=kv:=by
      have:e0.key=k':=by cases h4;rfl
      rw[this];exact((zk zL aB1).1 hkb).symm
     have hms:Go.Ab.pK kv (av.ev e) es=es.set j (.v kv,av.ev e):=by unfold Go.Ab.pK;rw[hq]
     rw[hms]at k3;have bo:=aev ht hu b1 zL (a.eval v) hf h3 hke;refine⟨_,_,undef,_,_,_,k3,dA _ (en.modify j λ e=>{e with key:=kv,val:=a.eval v}) clock (by simp[b2]) (λ i p q hx=> ?_),.a9 _ _ rfl (by simp),.inr ⟨?_,rfl⟩⟩;rotate_left
     ·simp[execOp,em,ek,gJ.val,gJ.mQ,bo,Result.andThen]
     ·by_cases hij:i=j
      ·subst hij;have aF:=(List.getElem?_eq_some_iff.1 hes).1;rw[getElem?_set_self aF]at hx;cases hx;exact⟨{e0 with key:=kv,val:=a.eval v},by rw[Array.getElem?_modify];simp[h3],rk,rv⟩
      ·rw[getElem?_set_ne (λ q=>hij q.symm)]at hx;obtain⟨e',h3',h4',h5'⟩:=b3 i p q hx;exact⟨e',by rw[Array.getElem?_modify];simp[h3',Ne.symm hij],h4',h5'⟩
   ·exact hk.elim
  ·exact hk.elim
 ·cases hc
theorem ahe(hi:Inv I L O w)(he:∀t,R I L O (e t) (a.tmps.getD t undef)){t:TypeId}{m k v:Operand}(hc:bY P ty (.insert t m k v)=some ao)(hk:wpOp P ao e O K):fD P I L O w (execOp a.eval ⟨d,.insert t m k v,ty,pos,af,g⟩) K:=
 aeU (d:=d) (ty:=ty) (pos:=pos) (af:=af) (g:=g) hi he (t:=t) (m:=m) (k:=k) (v:=v) hc hk
end
end Go.Ab
