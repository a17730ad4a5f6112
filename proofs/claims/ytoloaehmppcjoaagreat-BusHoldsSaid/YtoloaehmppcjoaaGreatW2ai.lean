/-
  Parts of the proof. No condition.
-/
import Derived.Test.YtoloaehmppcjoaaGreatW2ah
set_option linter.unusedVariables false
set_option linter.unusedSimpArgs false
set_option maxRecDepth 8000
set_option maxHeartbeats 8000000
namespace Go.Proofs.YtoloaehmppcjoaaGreat.V.M
attribute [local irreducible] GO GX
def aB (b:Nat)(l:List Value):It where
 ok w _ F:=cE w b l∧F=(· = b)
 mod:=fun⟨h,e⟩ hm hn _=>⟨h.mod hm (hn b (.inl (by rw[e]))),e⟩
 lt:=fun⟨h,e⟩ hb=>by rw[e] at hb;cases hb;exact h.lt
def aA (q:Option Nat):Option Addr:=q.map fun b=>⟨b,0,none⟩
def aq (el:TypeId)(sz:Nat)(q:Option Nat)(n c:Nat)(cs:List Value):It where
 ok w _ F:=aH w el sz q (aA q) n c cs∧F=fun b=>q=some b
 mod:=fun⟨h,e⟩ hm hn _=>⟨h.mod hm fun x hx=>by
  cases q with
  |none=>cases hx
  |some b=>cases hx;exact hn b (.inl (by rw[e])),e⟩
 lt:=fun {w Z F b} ⟨h,e⟩ hb=>by rw[e] at hb;subst hb;exact h.block.2
def aS {κ ν:Type}(b:Nat)(kv:κ→Value)(vv:ν→Value)(M:List (κ×ν)):It where
 ok w _ F:=dY w b kv vv M∧F=(· = b)
 mod:=fun⟨h,e⟩ hm hn _=>⟨h.mod hm (hn b (.inl (by rw[e]))),e⟩
 lt:=fun⟨h,e⟩ hb=>by rw[e] at hb;cases hb;exact h.lt
def aF (a:Option Addr)(cs:List Value):It where
 ok w Z F:=bN w a cs∧(cs≠[]→∀x,a=some x→Z x.block)∧F=fun _=>False
 mod:=fun⟨h,hz,e⟩ hm hn hZ=>⟨by
  by_cases hc:cs=[]
  ·subst hc;exact bN.empty _ _
  ·exact h.mod hm fun x hx=>hn _ (.inr (hz hc x hx)),fun hc x hx=>hZ _ (hz hc x hx),e⟩
 lt:=fun⟨_,_,e⟩ hb=>by rw[e] at hb;exact hb.elim
def fz (x:It):It where
 ok w Z F:=(∃F' Z',(∀b,F' b→Z b)∧(∀b,Z' b→Z b)∧x.ok w Z' F')∧F=fun _=>False
 mod:=fun⟨⟨F',Z',h1,h2,h3⟩,e⟩ hm hn hZ=>⟨⟨F',Z',fun b hb=>hZ b (h1 b hb),fun b hb=>hZ b (h2 b hb),x.mod h3 hm (fun b hb=>hn b (.inr (hb.elim (h1 b) (h2 b)))) fun _ h=>h⟩,e⟩
 lt:=fun⟨_,e⟩ hb=>by rw[e] at hb;exact hb.elim
class Rd (x:It) (a:Option Addr) (cs:List Value):Prop where
 out:∀w Z F,x.ok w Z F→bN w a cs∧(cs≠[]→∀y,a=some y→F y.block∨Z y.block)
instance {el:TypeId}{sz n c:Nat}{q:Option Nat}{cs:List Value}:Rd (aq el sz q n c cs) (aA q) cs:=⟨fun w Z F ⟨h,e⟩=>⟨h.bL,fun _ y hy=>by
 cases q with
 |none=>cases hy
 |some b=>cases hy;exact .inl (by rw[e])⟩⟩
instance {el:TypeId}{sz n c b:Nat}{cs:List Value}:Rd (aq el sz (some b) n c cs) (some ⟨b,0,none⟩) cs:=⟨fun w Z F ⟨h,e⟩=>⟨h.bL,fun _ y hy=>by cases hy;exact .inl (by rw[e])⟩⟩
instance {a:Option Addr}{cs:List Value}:Rd (aF a cs) a cs:=⟨fun _ _ _ ⟨h,hz,_⟩=>⟨h,fun hc y hy => .inr (hz hc y hy)⟩⟩
instance {el:TypeId}{sz n c:Nat}{q:Option Nat}{cs:List Value}:Rd (fz (aq el sz q n c cs)) (aA q) cs:=⟨fun w Z F ⟨⟨F',Z',h1,_,h,e⟩,_⟩=>⟨h.bL,fun _ y hy=>by
 cases q with
 |none=>cases hy
 |some b=>cases hy;exact .inr (h1 b (by rw[e]))⟩⟩
class Vw (x y:It):Prop where
 out:∀w Z F,x.ok w Z F→(∀b,Z b→b<w.heap.size)→y.ok w (fun b=>b<w.heap.size) (fun _=>False)
instance (priority:=low){x:It}:Vw x (fz x):=⟨fun w Z F h hz=>⟨⟨F,Z,fun b hb=>x.lt h hb,hz,h⟩,rfl⟩⟩
instance {x:It}:Vw (fz x) (fz x):=⟨fun w Z F ⟨⟨F',Z',h1,h2,h⟩,_⟩ hz=>⟨⟨F',Z',fun b hb=>hz b (h1 b hb),fun b hb=>hz b (h2 b hb),h⟩,rfl⟩⟩
instance {x:It}{a:Option Addr}{cs:List Value}[hr:Rd x a cs]:Vw x (aF a cs):=⟨fun w Z F h hz=>⟨(hr.out w Z F h).1,fun hc y hy=>((hr.out w Z F h).2 hc y hy).elim (fun hb=>x.lt h hb) (hz _),rfl⟩⟩
inductive eo (y:It):List It→Prop
 |here {x:It}{l:List It}[hv:Vw x y]:eo y (x::l)
 |there {x:It}{l:List It}:eo y l→eo y (x::l)
theorem eo.self {x:It}{l:List It}:eo (fz x) (x::l) := .here
theorem eo.J6 {x:It}{l:List It}:eo (fz x) (fz x::l) := .here
theorem eo.sl {el:TypeId}{sz n c:Nat}{q:Option Nat}{cs:List Value}{l:List It}:eo (aF (aA q) cs) (aq el sz q n c cs::l) := .here
theorem eo.lr {el:TypeId}{sz n c:Nat}{q:Option Nat}{cs:List Value}{l:List It}:eo (aF (aA q) cs) (fz (aq el sz q n c cs)::l) := .here
theorem eo.lx {a:Option Addr}{cs:List Value}{l:List It}:eo (aF a cs) (aF a cs::l) := .here
theorem eo.qq {y:It}{l:List It}(h:eo y l):∃x r,az x l r∧Vw x y:=by
 induction h with
 |here=>exact⟨_,_, .here,by assumption⟩
 |there _ ih=>
  obtain⟨x,r,h1,h2⟩:=ih;exact⟨x,_, .there h1,h2⟩
inductive Vs (l:List It):List It→Prop
 |nil:Vs l []
 |cons {y:It}{ys:List It}:eo y l→Vs l ys→Vs l (y::ys)
inductive rE:List It→List It→List It→Prop
 |nil {l:List It}:rE [] l l
 |cons {x:It}{a l r:List It}:rE a l r→rE (x::a) l (fz x::r)
theorem rE.eq {a l r:List It}(h:rE a l r):a.map fz++l=r:=by
 induction h with
 |nil=>rfl
 |cons _ ih=>rw[cJ,jK,ih]
theorem rE.all:∀(a l:List It),rE a l (a.map fz++l)
 | [],_ => .nil
 |_::a,l => .cons (rE.all a l)
class Zf (x:It):Prop where
 out:∀w Z Z' F,x.ok w Z F→x.ok w Z' F
instance {b:Nat}{l:List Value}:Zf (aB b l):=⟨fun _ _ _ _ h=>h⟩
instance {el:TypeId}{sz n c:Nat}{q:Option Nat}{cs:List Value}:Zf (aq el sz q n c cs):=⟨fun _ _ _ _ h=>h⟩
instance {κ ν:Type}{b:Nat}{kv:κ→Value}{vv:ν→Value}{M:List (κ×ν)}:Zf (aS b kv vv M):=⟨fun _ _ _ _ h=>h⟩
class gb (l:List It):Prop where
 out:∀w Z Z' F,Sep w Z l F→Sep w Z' l F
instance:gb []:=⟨fun _ _ _ _ h=>h⟩
instance {x:It}{l:List It}[hx:Zf x][hl:gb l]:gb (x::l):=⟨fun w Z Z' _ ⟨F1,F2,e,hd,h1,h2⟩=>⟨F1,F2,e,hd,hx.out w Z Z' F1 h1,hl.out w Z Z' F2 h2⟩⟩
theorem gb.append {a b:List It}(ha:gb a)(hb:gb b):gb (a++b):=⟨fun w Z Z' F h=>by
 obtain⟨F1,F2,rfl,hd,h1,h2⟩:=h.split;exact Sep.join (hb.out w Z Z' F2 h2) (ha.out w Z Z' F1 h1) hd⟩
theorem Zf.star {X:Type}{f:X→List It}(h:∀x,gb (f x)):Zf (star f):=⟨fun w Z Z' F ⟨x,hx⟩=>⟨x,(h x).out w Z Z' F hx⟩⟩
theorem SH.read {o:Og}{w:World}{l pre:List It}(h:SH o w l)(hv:Vs l pre):∃o',Start o' w pre∧∀w' out,gb out→SH o' w' out→Ext w w'∧SH o w' (out++l):=by
 refine⟨⟨w,fun b=>b<w.heap.size,fun _=>False⟩,⟨rfl,?_,fun _ h=>h.elim,fun _ h=>h⟩,fun w' out hz ⟨Z',F',hu,k1,k2,k3⟩=>?_⟩
 ·induction hv with
  |nil=>rfl
  |cons mJ _ ih=>
   obtain⟨_,_,hs,hv⟩:=mJ.qq;obtain⟨Z,F,hu,⟨F1,F2,rfl,hd,h1,h2⟩,h3,h4⟩:=h.qq hs;exact⟨fun _=>False,fun _=>False,by simp,fun _ h=>h.elim,hv.out _ _ _ h1 h4,ih⟩
 ·obtain⟨m1,m2,m3,m4⟩:=hu;have hE:Ext w w':=m1;have om:∀b,F' b→w.heap.size≤b:=fun b hb=>(m2 b hb).elim (fun h=>h.elim) id
  refine⟨hE,?_⟩;obtain⟨Z,F,hu,h1,h2,h3⟩:=h;have gM:Sep w' Z l F:=h1.mod hE (fun _ _ h=>h) fun b hb=>hb
  refine⟨Z,fun b=>F' b∨F b,⟨hu.mod.trans hE.mod,fun b hb=>?_,hu.Cg,hu.Ct⟩,Sep.join gM (hz.out _ _ _ _ k1) (fun b hb hF=>?_),fun b hb hZ=>?_,fun b hb=>jL (h3 b hb) hE.size⟩
  ·rcases hb with hb|hb
   ·exact .inr (dF hu.mod.size (om b hb))
   ·exact hu.rk b hb
  ·have:=om b hb;have:=h1.lt hF;omega
  ·rcases hb with hb|hb
   ·have:=om b hb;have:=h3 b hZ;omega
   ·exact h2 b hb hZ
theorem SH.dV {o:Og}{w:World}{X:Type}{f:X→List It}{l r:List It}(h:SH o w l)(hs:az (fz (star f)) l r:=by repeat(first|exact az.here|apply az.there)):∃x,SH o w ((f x).map fz++r):=by
 have h:=h.perm hs.perm;obtain⟨Z,F,hu,⟨F1,F2,rfl,hd,⟨⟨F',Z',q1,q2,x,q3⟩,rfl⟩,h2⟩,h3⟩:=h
 suffices key:Sep w Z ((f x).map fz) fun _=>False by
  exact⟨x,Z,_,hu,by exact Sep.join h2 key (fun _ h=>h.elim),h3⟩
 generalize f x=l at q3;clear hd h2 h3 hu
 induction l generalizing F' with
 |nil=>rfl
 |cons y l ih=>
  obtain⟨G1,G2,rfl,_,k1,k2⟩:=q3;exact⟨fun _=>False,fun _=>False,by simp,fun _ h=>h.elim,⟨⟨G1,Z',fun b hb=>q1 b (.inl hb),q2,k1⟩,rfl⟩,ih G2 (fun b hb=>q1 b (.inr hb)) k2⟩
theorem SH.ed {o:Og}{w:World}{a l r:List It}(h:SH o w (a.map fz++l))(ha:rE a l r:=by first|(repeat(first|exact rE.nil|apply rE.cons))|exact rE.all _ _):SH o w r:=ha.eq▸h
theorem Start.none {o:Og}{w w':World}{l out:List It}(h:Start o w (l.map fz))(hS:SH o w' out):Ext w w':=by
 have hF:o.F=fun _=>False:=by
  obtain⟨_,h,_⟩:=h;generalize o.F=F at h
  induction l generalizing F with
  |nil=>exact h
  |cons y l ih=>
   obtain⟨F1,F2,rfl,_,⟨_,rfl⟩,h2⟩:=h;rw[ih F2 h2];simp
 have:=hS.mod;rw[hF,h.1] at this;exact this
section
variable {o:Og}{w w':World}{l r l':List It}{b:Nat}
theorem SH.kK {cs:List Value}(h:SH o w l)(hs:az (aB b cs) l r):cE w b cs:=let⟨_,_,h,_⟩:=(h.qq hs).head;h
theorem SH.um {cs:List Value}(h:SH o w l)(hs:az (fz (aB b cs)) l r):cE w b cs:=let⟨_,_,⟨_,_,_,_,h,_⟩,_⟩:=(h.qq hs).head;h
theorem SH.own {el:TypeId}{sz n c:Nat}{q:Option Nat}{cs:List Value}(h:SH o w l)(hs:az (aq el sz q n c cs) l r):aH w el sz q (aA q) n c cs:=let⟨_,_,h,_⟩:=(h.qq hs).head;h
theorem SH.bL {x:It}{a:Option Addr}{cs:List Value}(h:SH o w l)(hs:az x l r)[hr:Rd x a cs]:bN w a cs:=let⟨_,_,h⟩:=(h.qq hs).head;(hr.out _ _ _ h).1
theorem SH.map {κ ν:Type}{kv:κ→Value}{vv:ν→Value}{M:List (κ×ν)}(h:SH o w l)(hs:az (aS b kv vv M) l r):dY w b kv vv M:=let⟨_,_,h,_⟩:=(h.qq hs).head;h
theorem SH.pos {el:TypeId}{sz n c:Nat}{q:Option Nat}{cs:List Value}(h:SH o w l)(hs:az (aq el sz q n c cs) l r:=by repeat(first|exact az.here|apply az.there))(hn:0<n:=by omega):∃b,q=some b:=by
 have h:=h.own hs;cases q with
 |some b=>exact⟨b,rfl⟩
 |none=>
  obtain⟨_,⟨_,_,_,h0⟩|⟨b,h1,_⟩⟩:=h
  ·have:=h0 rfl;omega
  ·cases h1
theorem SH.len {el:TypeId}{sz n c:Nat}{q:Option Nat}{cs:List Value}(h:SH o w l)(hs:az (aq el sz q n c cs) l r:=by repeat(first|exact az.here|apply az.there)):cs.length=n*sz:=(h.own hs).length
inductive Es (b:Nat) (cs:List Value):List It→Prop
 |sl {el:TypeId}{sz n c:Nat}{l:List It}:Es b cs (aq el sz (some b) n c cs::l)
 |lr {el:TypeId}{sz n c:Nat}{l:List It}:Es b cs (fz (aq el sz (some b) n c cs)::l)
 |lx {l:List It}:Es b cs (aF (some ⟨b,0,none⟩) cs::l)
 |there {y:It}{l:List It}:Es b cs l→Es b cs (y::l)
theorem SH.es {cs:List Value}(h:SH o w l)(he:Es b cs l):At w b 0 cs:=by
 obtain⟨Z,F,hu,h1,hr⟩:=h;clear hu hr
 induction he generalizing F with
 |sl=>obtain⟨F1,F2,_,_,⟨h,_⟩,_⟩:=h1;exact h.bL
 |lr=>obtain⟨F1,F2,_,_,⟨⟨_,_,_,_,h,_⟩,_⟩,_⟩:=h1;exact h.bL
 |lx=>obtain⟨F1,F2,_,_,⟨h,_⟩,_⟩:=h1;exact h
 |there _ ih=>obtain⟨F1,F2,_,_,_,h2⟩:=h1;exact ih F2 h2
theorem SH.l8 {el:TypeId}{sz n c:Nat}{q:Option Nat}{cs:List Value}(h:SH o w l)(hs:az (fz (aq el sz q n c cs)) l r:=by repeat(first|exact az.here|apply az.there))(hn:0<n:=by omega):∃b,q=some b:=by
 obtain⟨_,_,⟨_,_,_,_,h,_⟩,_⟩:=(h.qq hs).head;cases q with
 |some b=>exact⟨b,rfl⟩
 |none=>
  obtain⟨_,⟨_,_,_,h0⟩|⟨b,h1,_⟩⟩:=h
  ·have:=h0 rfl;omega
  ·cases h1
theorem SH.tI {el:TypeId}{sz n c:Nat}{q:Option Nat}{cs ca:List Value}{t:List It}(h:SH o w l)(hp:Pk l [aB b ca,aq el sz q n c cs] t:=by repeat(first|exact Pk.nil|(apply Pk.cons;repeat(first|exact az.here|apply az.there)))):some b≠q:=by
 obtain⟨_,_,_,⟨_,rfl⟩,⟨_,rfl⟩,hd,_⟩:=SH.nodup (h.perm hp.perm);exact fun e=>hd b rfl e.symm
theorem SH.Wa {el el':TypeId}{sz n c sz' n' c':Nat}{q:Option Nat}{cs cs':List Value}{t:List It}(h:SH o w l)(hp:Pk l [aq el sz (some b) n c cs,aq el' sz' q n' c' cs'] t:=by repeat(first|exact Pk.nil|(apply Pk.cons;repeat(first|exact az.here|apply az.there)))):some b≠q:=by
 obtain⟨_,_,_,⟨_,rfl⟩,⟨_,rfl⟩,hd,_⟩:=SH.nodup (h.perm hp.perm);exact fun e=>hd b rfl e.symm
theorem SH.JU {cs cs':List Value}(h:SH o w l)(hr:bA (aB b cs) (aB b cs') l l')(hB:cE w b cs→cE w' b cs')(hm:Mod (· = b) w w'):SH o w' l':=
 h.rep hr fun _ _ ⟨h1,e⟩ _=>⟨(· = b),⟨hB h1,rfl⟩,by rw[e];exact hm,fun b hb => .inl (by rw[e];exact hb)⟩
theorem SH.Jz {cs:List Value}(h:SH o w l)(hE:Ext w w')(hb:b=w.heap.size)(hB:cE w' b cs):SH o w' (aB b cs::l):=h.add hE ⟨(· = b),fun _=>⟨hB,rfl⟩,fun k hk=>by omega⟩
theorem SH.cF {el:TypeId}{sz n c:Nat}{q:Option Nat}{cs:List Value}(h:SH o w l)(hE:Ext w w')(hb:∀b,q=some b→w.heap.size≤b)(hB:aH w' el sz q (aA q) n c cs):SH o w' (aq el sz q n c cs::l):=h.add hE ⟨fun b=>q=some b,fun _=>⟨hB,rfl⟩,fun k hk=>hb k hk⟩
theorem SH.Oi {κ ν:Type}{kv:κ→Value}{vv:ν→Value}{M:List (κ×ν)}(h:SH o w l)(hE:Ext w w')(hb:b=w.heap.size)(hB:dY w' b kv vv M):SH o w' (aS b kv vv M::l):=h.add hE ⟨(· = b),fun _=>⟨hB,rfl⟩,fun k hk=>by omega⟩
theorem SH.lG {el:TypeId}{sz n c n' c':Nat}{q q':Option Nat}{cs cs':List Value}(h:SH o w l)(hr:bA (aq el sz q n c cs) (aq el sz q' n' c' cs') l l')(hB:aH w el sz q (aA q) n c cs→aH w' el sz q' (aA q') n' c' cs')(hm:Mod (fun k=>some k=q) w w')(hn:∀b,q'=some b→q=some b∨w.heap.size≤b):SH o w' l':=
 h.rep hr fun _ _ ⟨h1,e⟩ _=>⟨fun b=>q'=some b,⟨hB h1,rfl⟩,hm.weaken fun k _ hk=>by rw[e];exact hk.symm,fun b hb=>by rw[e];exact hn b hb⟩
theorem SH.vi {κ ν:Type}{kv:κ→Value}{vv:ν→Value}{M M':List (κ×ν)}(h:SH o w l)(hr:bA (aS b kv vv M) (aS b kv vv M') l l')(hB:dY w' b kv vv M')(hm:Mod (· = b) w w'):SH o w' l':=
 h.rep hr fun _ _ ⟨h1,e⟩ _=>⟨(· = b),⟨hB,rfl⟩,by rw[e];exact hm,fun b hb => .inl (by rw[e];exact hb)⟩
theorem SH.freeze {el:TypeId}{sz n c:Nat}{q:Option Nat}{cs:List Value}(h:SH o w l)(hs:az (aq el sz q n c cs) l r):SH o w (aF (aA q) cs::r):=by
 obtain⟨Z,F,hu,⟨F1,F2,rfl,hd,⟨h1,e⟩,h2⟩,h3,h4⟩:=h.qq hs;have RF:∀b,F1 b→b<w.heap.size:=fun b hb=>(aq el sz q n c cs).lt (Z:=Z) ⟨h1,e⟩ hb
 refine⟨fun b=>Z b∨F1 b,F2,⟨hu.mod,fun b hb=>hu.rk b (.inr hb),fun b hb => .inl (hu.Cg b hb),fun b hb=>?_⟩,⟨fun _=>False,F2,by simp,fun _ h=>h.elim,⟨h1.bL,fun _ x hx=>?_,rfl⟩,h2.mod (Mod.refl (S:=fun _=>False) w) (fun _ _ h=>h) fun _ h => .inl h⟩,fun b hb h=>?_,fun b hb=>hb.elim (h4 b) (RF b)⟩
 ·rcases hb with hb|hb
  ·exact hu.Ct b hb
  ·exact .inr (hu.rk b (.inl hb))
 ·cases q with
  |none=>cases hx
  |some b=>cases hx;exact .inr (by rw[e])
 ·rcases h with h|h
  ·exact h3 b (.inr hb) h
  ·exact hd b h hb
theorem SH.DA {a:Option Addr}{cs:List Value}(h:SH o w l)(hs:az (aF a cs) l r):SH o w (aF a cs::l):=by
 obtain⟨Z,F,hu,⟨F1,F2,rfl,hd,h1,h2⟩,h3,h4⟩:=h.qq hs;refine SH.perm (l:=aF a cs::aF a cs::r) ⟨Z,fun b=>F1 b∨F2 b,hu,⟨fun _=>False,_,by simp,fun _ h=>h.elim,⟨h1.1,h1.2.1,rfl⟩,F1,F2,rfl,hd,h1,h2⟩,h3,h4⟩ (List.Perm.cons _ hs.perm.symm)
end
section
variable {P:Program}{ops:Array Oper}{Q:Exit→Act→World→Prop}{S:World→Prop}{n:Nat}
variable {i m:Nat}{p:b6}{e:Env}{w:World}{k:Kd}{dst:Option Tmp}{ty:TypeId}{pos:String}{an:Array Edge}{g:Option (Nat×Bool)}
variable {og:Og}{l r l':List It}{b:Nat}
inductive Cl:Value→List Value→Prop
 |agg {l:List Value}:Cl (.agg l.toArray) l
 |one {v:Value}:v.cells.toList=[v]→Cl v [v]
theorem Cl.eq {v:Value}{l:List Value}(h:Cl v l):v.cells.toList=l:=by
 cases h with
 |agg=>rfl
 |one h=>exact h
def aX {X:Type}(og:Og)(V:X→Value)(C:X→Prop)(out:X→List It)(v:Value)(w':World):Prop:=∃x,v=V x∧C x∧SH og w' (out x)
theorem GX.bZ [Fr]{X:Type}{pre:List It}{V:X→Value}{C:X→Prop}{out:X→List It}{x:Operand}{args:Array Operand}{ts:Array TypeId}{f:FuncId}{fs cs:Array Value}{vs:List Value}{al:List Value}(hH:SH og w l:=by assumption)
  (hc:∀o',Start o' w pre→aj P f al.toArray w (aX o' V C out))
  (ho:ops[i]?=some ⟨dst, .call ⟨.value x,args,ts⟩,ty,pos,an,g⟩:=by rfl) (hw:aI ops e ⟨dst, .call ⟨.value x,args,ts⟩,ty,pos,an,g⟩=some true:=by rfl) (hx:ev e x=some (.func (.func f) fs cs):=by rfl) (hy:kO e args.toList=some vs:=by rfl) (hd:fits n dst=true:=by rfl)
  (cj:fs.toList++vs++cs.toList=al:=by rfl) (hp:Pk l pre r:=by repeat(first|exact Pk.nil|(apply Pk.cons;repeat(first|exact az.here|apply az.there)))) [hf:ax P f]
  (h:∀x w',C x→SH og w' (out x++r)→GX P ops Q (fun _=>True) n (bc (i+1) m) (e.put dst (V x)) w'):GX P ops Q (fun _=>True) n (bc i (m+1)) e w:=by
 obtain⟨o',hs,hK⟩:=SH.call (hH.perm hp.perm);exact GX.aw ho (GO.rL hw hx hy hd cj (hc o' hs) fun v w' ⟨x,hv,hC,hS⟩=>⟨fun _ _=>trivial,by subst hv;exact h x w' hC (hK w' _ hS)⟩)
def Po (og:Og)(V:Value)(out:List It)(v:Value)(w':World):Prop:=v=V∧SH og w' out
theorem GX.bF [Fr]{pre:List It}{V:Value}{out:List It}{x:Operand}{args:Array Operand}{ts:Array TypeId}{l2:List It}{f:FuncId}{fs cs:Array Value}{vs:List Value}{al:List Value}(hH:SH og w l:=by assumption)
  (hc:∀o',Start o' w pre→aj P f al.toArray w (Po o' V out))
  (ho:ops[i]?=some ⟨dst, .call ⟨.value x,args,ts⟩,ty,pos,an,g⟩:=by rfl) (hw:aI ops e ⟨dst, .call ⟨.value x,args,ts⟩,ty,pos,an,g⟩=some true:=by rfl) (hx:ev e x=some (.func (.func f) fs cs):=by rfl) (hy:kO e args.toList=some vs:=by rfl) (hd:fits n dst=true:=by rfl)
  (cj:fs.toList++vs++cs.toList=al:=by rfl) (hp:Pk l pre r:=by repeat(first|exact Pk.nil|(apply Pk.cons;repeat(first|exact az.here|apply az.there)))) (ha:Ap out r l2:=by first|(repeat(first|exact Ap.nil|apply Ap.cons))|exact Ap.all _ _) [hf:ax P f]
  (h:∀w',SH og w' l2→GX P ops Q (fun _=>True) n (bc (i+1) m) (e.put dst V) w'):GX P ops Q (fun _=>True) n (bc i (m+1)) e w:=by
 obtain⟨o',hs,hK⟩:=SH.call (hH.perm hp.perm);exact GX.aw ho (GO.rL hw hx hy hd cj (hc o' hs) fun v w' ⟨hv,hS⟩=>⟨fun _ _=>trivial,by subst hv;exact h w' (ha.eq▸hK w' _ hS)⟩)
theorem GX.aM [Fr]{pre:List It}{V:Value}{out:List It}{x:Operand}{args:Array Operand}{ts:Array TypeId}{l2:List It}{f:FuncId}{fs cs:Array Value}{vs:List Value}{al:List Value}(hH:SH og w l:=by assumption)
  (hc:∀o',Start o' w pre→aj P f al.toArray w (Po o' V out)) [hz:gb out]
  (ho:ops[i]?=some ⟨dst, .call ⟨.value x,args,ts⟩,ty,pos,an,g⟩:=by rfl) (hw:aI ops e ⟨dst, .call ⟨.value x,args,ts⟩,ty,pos,an,g⟩=some true:=by rfl) (hx:ev e x=some (.func (.func f) fs cs):=by rfl) (hy:kO e args.toList=some vs:=by rfl) (hd:fits n dst=true:=by rfl)
  (cj:fs.toList++vs++cs.toList=al:=by rfl) (hp:Vs l pre:=by repeat(first|exact Vs.nil|(apply Vs.cons;repeat(first|exact eo.self|exact eo.J6|exact eo.sl|exact eo.lr|exact eo.lx|exact eo.here|apply eo.there)))) (ha:Ap out l l2:=by first|(repeat(first|exact Ap.nil|apply Ap.cons))|exact Ap.all _ _) [hf:ax P f]
  (h:∀w',Ext w w'→SH og w' l2→GX P ops Q (fun _=>True) n (bc (i+1) m) (e.put dst V) w'):GX P ops Q (fun _=>True) n (bc i (m+1)) e w:=by
 obtain⟨o',hs,hK⟩:=hH.read hp;exact GX.aw ho (GO.rL hw hx hy hd cj (hc o' hs) fun v w' ⟨hv,hS⟩=>⟨fun _ _=>trivial,by subst hv;exact h w' (hK w' _ hz hS).1 (ha.eq▸(hK w' _ hz hS).2)⟩)
theorem GX.ef [Fr]{X:Type}{pre:List It}{V:X→Value}{C:X→Prop}{out:X→List It}{x:Operand}{args:Array Operand}{ts:Array TypeId}{f:FuncId}{fs cs:Array Value}{vs:List Value}{al:List Value}(hH:SH og w l:=by assumption)
  (hc:∀o',Start o' w pre→aj P f al.toArray w (aX o' V C out)) [hz:∀x,gb (out x)]
  (ho:ops[i]?=some ⟨dst, .call ⟨.value x,args,ts⟩,ty,pos,an,g⟩:=by rfl) (hw:aI ops e ⟨dst, .call ⟨.value x,args,ts⟩,ty,pos,an,g⟩=some true:=by rfl) (hx:ev e x=some (.func (.func f) fs cs):=by rfl) (hy:kO e args.toList=some vs:=by rfl) (hd:fits n dst=true:=by rfl)
  (cj:fs.toList++vs++cs.toList=al:=by rfl) (hp:Vs l pre:=by repeat(first|exact Vs.nil|(apply Vs.cons;repeat(first|exact eo.self|exact eo.J6|exact eo.sl|exact eo.lr|exact eo.lx|exact eo.here|apply eo.there)))) [hf:ax P f]
  (h:∀x w',C x→Ext w w'→SH og w' (out x++l)→GX P ops Q (fun _=>True) n (bc (i+1) m) (e.put dst (V x)) w'):GX P ops Q (fun _=>True) n (bc i (m+1)) e w:=by
 obtain⟨o',hs,hK⟩:=hH.read hp;exact GX.aw ho (GO.rL hw hx hy hd cj (hc o' hs) fun v w' ⟨x,hv,hC,hS⟩=>⟨fun _ _=>trivial,by subst hv;exact h x w' hC (hK w' _ (hz x) hS).1 ((hK w' _ (hz x) hS).2)⟩)
theorem GX.xN [Fr]{T:Nat→Prop}{w0:World}{p:b6}{pre:List It}{V:Value}{out:List It}{x:Operand}{args:Array Operand}{ts:Array TypeId}{l2:List It}{f:FuncId}{fs cs:Array Value}{vs:List Value}{al:List Value}(hH:SH og w l:=by assumption)
  (hc:∀o',Start o' w pre→aj P f al.toArray w (Po o' V out)) [hz:gb out]
  (ho:ops[i]?=some ⟨dst, .call ⟨.value x,args,ts⟩,ty,pos,an,g⟩:=by rfl) (hw:aI ops e ⟨dst, .call ⟨.value x,args,ts⟩,ty,pos,an,g⟩=some true:=by rfl) (hx:ev e x=some (.func (.func f) fs cs):=by rfl) (hy:kO e args.toList=some vs:=by rfl) (hd:fits n dst=true:=by rfl)
  (cj:fs.toList++vs++cs.toList=al:=by rfl) (hp:Vs l pre:=by repeat(first|exact Vs.nil|(apply Vs.cons;repeat(first|exact eo.self|exact eo.J6|exact eo.sl|exact eo.lr|exact eo.lx|exact eo.here|apply eo.there)))) (ha:Ap out l l2:=by first|(repeat(first|exact Ap.nil|apply Ap.cons))|exact Ap.all _ _) [hf:ax P f] (hT:Mod T w0 w:=by first|assumption|exact Ext.mod (by assumption))
  (h:∀w',Mod T w0 w'→SH og w' l2→GX P ops Q (Mod T w0) n p (e.put dst V) w'):GX P ops Q (Mod T w0) n (.aw i p) e w:=by
 obtain⟨o',hs,hK⟩:=hH.read hp;exact GX.aw ho (GO.rL hw hx hy hd cj (hc o' hs) fun v w' ⟨hv,hS⟩=>⟨fun _ hm=>hm.trans (Ext.mod (hK w' _ hz hS).1),by subst hv;exact h w' (hT.trans (Ext.mod (hK w' _ hz hS).1)) (ha.eq▸(hK w' _ hz hS).2)⟩)
theorem GX.eG [Fr]{T:Nat→Prop}{w0:World}{p:b6}{X:Type}{pre:List It}{V:X→Value}{C:X→Prop}{out:X→List It}{x:Operand}{args:Array Operand}{ts:Array TypeId}{f:FuncId}{fs cs:Array Value}{vs:List Value}{al:List Value}(hH:SH og w l:=by assumption)
  (hc:∀o',Start o' w pre→aj P f al.toArray w (aX o' V C out)) [hz:∀x,gb (out x)]
  (ho:ops[i]?=some ⟨dst, .call ⟨.value x,args,ts⟩,ty,pos,an,g⟩:=by rfl) (hw:aI ops e ⟨dst, .call ⟨.value x,args,ts⟩,ty,pos,an,g⟩=some true:=by rfl) (hx:ev e x=some (.func (.func f) fs cs):=by rfl) (hy:kO e args.toList=some vs:=by rfl) (hd:fits n dst=true:=by rfl)
  (cj:fs.toList++vs++cs.toList=al:=by rfl) (hp:Vs l pre:=by repeat(first|exact Vs.nil|(apply Vs.cons;repeat(first|exact eo.self|exact eo.J6|exact eo.sl|exact eo.lr|exact eo.lx|exact eo.here|apply eo.there)))) [hf:ax P f] (hT:Mod T w0 w:=by first|assumption|exact Ext.mod (by assumption))
  (h:∀x w',C x→Mod T w0 w'→SH og w' (out x++l)→GX P ops Q (Mod T w0) n p (e.put dst (V x)) w'):GX P ops Q (Mod T w0) n (.aw i p) e w:=by
 obtain⟨o',hs,hK⟩:=hH.read hp;exact GX.aw ho (GO.rL hw hx hy hd cj (hc o' hs) fun v w' ⟨x,hv,hC,hS⟩=>⟨fun _ hm=>hm.trans (Ext.mod (hK w' _ (hz x) hS).1),by subst hv;exact h x w' hC (hT.trans (Ext.mod (hK w' _ (hz x) hS).1)) ((hK w' _ (hz x) hS).2)⟩)
theorem GX.cI [Fr]{t:TypeId}{x:Operand}{v:Value}{cs:List Value}(hH:SH og w l:=by assumption)
  (ho:ops[i]?=some ⟨dst, .box t x,ty,pos,an,g⟩:=by rfl) (hw:aI ops e ⟨dst, .box t x,ty,pos,an,g⟩=some true:=by rfl) (hx:ev e x=some v:=by rfl) (hd:fits n dst=true:=by rfl) (hv:Cl v cs:=by first|exact Cl.agg|exact Cl.one rfl)
  (h:∀b w',SH og w' (aB b cs::l)→GX P ops Q (fun _=>True) n (bc (i+1) m) (e.put dst (.pointer (some ⟨b,0,none⟩))) w'):GX P ops Q (fun _=>True) n (bc i (m+1)) e w:=
 GX.box ho hw hx hd hv.eq fun b w' hb hB hE=>h b w' (hH.Jz hE hb hB)
theorem GX.cA [Fr]{t:TypeId}{cs:List Value}(hH:SH og w l:=by assumption)
  (ho:ops[i]?=some ⟨dst, .alloc t,ty,pos,an,g⟩:=by rfl) (hz:ff P t cs:=by infer_instance) (hw:aI ops e ⟨dst, .alloc t,ty,pos,an,g⟩=some true:=by rfl) (hd:fits n dst=true:=by rfl)
  (h:∀b w',SH og w' (aB b cs::l)→GX P ops Q (fun _=>True) n (bc (i+1) m) (e.put dst (.pointer (some ⟨b,0,none⟩))) w'):GX P ops Q (fun _=>True) n (bc i (m+1)) e w:=
 GX.alloc ho hw hd fun b w' hb hB hE=>h b w' (hH.Jz hE hb hB)
theorem GX.dC [Fr]{t:TypeId}{x y:Operand}{o:Nat}{v:Value}{cs cs':List Value}(hH:SH og w l:=by assumption)
  (ho:ops[i]?=some ⟨none, .store t x y,ty,pos,an,g⟩:=by rfl) (hf:aC P t false 1:=by infer_instance) (hw:aI ops e ⟨none, .store t x y,ty,pos,an,g⟩=some true:=by rfl) (hx:ev e x=some (.pointer (some ⟨b,o,none⟩)):=by rfl) (hy:ev e y=some v:=by rfl)
  (hr:bA (aB b cs) (aB b cs') l l':=by repeat(first|exact bA.here|apply bA.there)) (hc:v.cells.toList=[v]:=by rfl) (h1:v.oneCell'=true:=by rfl) (hl':St v cs o cs':=by repeat(first|exact St.zero|apply St.succ))
  (h:∀w',SH og w' l'→GX P ops Q (fun _=>True) n (bc (i+1) m) e w'):GX P ops Q (fun _=>True) n (bc i (m+1)) e w:=by
 obtain⟨_,hs,_⟩:=hr.perm;have hB:cE w b cs:=let⟨_,_,h,_⟩:=(hH.perm hs).head;h;refine GX.yT hB ho hw hx hy hc h1 (Nat.ble_eq_true_of_le hl'.eq.2) ?_ fun w' zA hm=>h w' (hH.JU hr (fun _=>zA) hm)
 rw[←hl'.eq.1,AZ,if_pos hl'.eq.2];simp
theorem GX.fO [Fr]{T:Nat→Prop}{w0:World}{p:b6}{t:TypeId}{x y:Operand}{o:Nat}{v:Value}{cs cs':List Value}(hH:SH og w l:=by assumption)(hT:T b∨gS ops i=true:=by exact .inr ai)
  (ho:ops[i]?=some ⟨none, .store t x y,ty,pos,an,g⟩:=by rfl) (hf:aC P t false 1:=by infer_instance) (hw:aI ops e ⟨none, .store t x y,ty,pos,an,g⟩=some true:=by rfl) (hx:ev e x=some (.pointer (some ⟨b,o,none⟩)):=by rfl) (hy:ev e y=some v:=by rfl)
  (hr:bA (aB b cs) (aB b cs') l l':=by repeat(first|exact bA.here|apply bA.there)) (hc:v.cells.toList=[v]:=by rfl) (h1:v.oneCell'=true:=by rfl) (hl':St v cs o cs':=by repeat(first|exact St.zero|apply St.succ))
  (h:∀w',SH og w' l'→GX P ops Q (Mod T w0) n p e w'):GX P ops Q (Mod T w0) n (.aw i p) e w:=by
 obtain⟨_,hs,_⟩:=hr.perm;have hB:cE w b cs:=let⟨_,_,h,_⟩:=(hH.perm hs).head;h;refine GX.F9 hB hT ho hw hx hy hc h1 (Nat.ble_eq_true_of_le hl'.eq.2) ?_ fun w' zA hm=>h w' (hH.JU hr (fun _=>zA) hm)
 rw[←hl'.eq.1,AZ,if_pos hl'.eq.2];simp
theorem GX.Kh [Fr]{t:TypeId}{x y:Operand}{el:TypeId}{len cap j:Nat}{v:Value}{cs:List Value}(hH:SH og w l:=by assumption)
  (ho:ops[i]?=some ⟨none, .store t x y,ty,pos,an,g⟩:=by rfl) (hf:aC P t false 1:=by infer_instance) (hw:aI ops e ⟨none, .store t x y,ty,pos,an,g⟩=some true:=by rfl) (hx:ev e x=some (.pointer (some ⟨b,j,none⟩)):=by rfl) (hy:ev e y=some v:=by rfl)
  (hr:bA (aq el 1 (some b) len cap cs) (aq el 1 (some b) len cap (cs.set j v)) l l':=by repeat(first|exact bA.here|apply bA.there)) (hj:j<cs.length) (hc:v.cells.toList=[v]:=by rfl) (h1:v.oneCell'=true:=by rfl)
  (h:∀w',SH og w' l'→GX P ops Q (fun _=>True) n (bc (i+1) m) e w'):GX P ops Q (fun _=>True) n (bc i (m+1)) e w:=by
 obtain⟨_,hs,_⟩:=hr.perm;have hO:aH w el 1 (some b) (aA (some b)) len cap cs:=let⟨_,_,h,_⟩:=(hH.perm hs).head;h;exact GX.Pd hO hj ho hw hx hy hc h1 fun w' j6 hm=>h w' (hH.lG hr (fun _=>j6) (hm.weaken fun k _ hk=>by rw[hk]) fun b hb => .inl hb)
theorem wW {el:TypeId}{sz n c:Nat}{q:Option Nat}{a:Option Addr}{cs:List Value}(h:aH w el sz q a n c cs)(hn:q=none→a=none):a=aA q:=by
 cases q with
 |none=>exact hn rfl
 |some b=>exact h.block.1
theorem GX.pQ [Fr]{x y:Operand}{t el:TypeId}{sz aT:Nat}{q:Option Nat}{a2:Option Addr}{len cap m2 c2:Nat}{cs news:List Value}{qd:Option Nat→Nat→List It}(hH:SH og w l:=by assumption)(hN:bN w a2 news)
  (ho:ops[i]?=some ⟨dst, .call ⟨.builtin .append,#[x,y],#[t,t]⟩,ty,pos,an,g⟩:=by rfl) (hf:cr P t el sz aT:=by infer_instance) (hw:aI ops e ⟨dst, .call ⟨.builtin .append,#[x,y],#[t,t]⟩,ty,pos,an,g⟩=some true:=by rfl) (hx:ev e x=some (.slice (aA q) len cap):=by rfl) (hy:ev e y=some (.slice a2 m2 c2):=by rfl) (hd:fits n dst=true:=by rfl)
  (hz:Nat.blt 0 sz=true:=by rfl) (hnl:news.length=m2*sz) (h1:∀u∈news,u.oneCell'=true) (hr:∀q' c',bA (aq el sz q len cap cs) (aq el sz q' (len+m2) c' (cs++news)) l (qd q' c'):=by intro _ _;repeat(first|exact bA.here|apply bA.there)) (hb:(len+m2)*aT≤140737488355328:=by omega) (hm:len+m2≤140737488355328:=by omega)
  (h:∀q' c' w',SH og w' (qd q' c')→GX P ops Q (fun _=>True) n (bc (i+1) m) (e.put dst (.slice (aA q') (len+m2) c')) w'):GX P ops Q (fun _=>True) n (bc i (m+1)) e w:=by
 obtain⟨_,hs,_⟩:=(hr none 0).perm;have hO:aH w el sz q (aA q) len cap cs:=let⟨_,_,h,_⟩:=(hH.perm hs).head;h;refine GX.append hO hN ho hw hx hy hd hz hnl h1 hb hm fun cQ a' c' w' j6 jw hn ha=>?_
 have e:a'=aA cQ:=wW j6 fun h0=>by
  cases qP:a' with
  |none=>rfl
  |some x=>
   rcases ha x qP with h2|⟨h2,h3⟩
   ·rw[h0] at h2;cases h2
   ·rw[←h3,h0] at h2;cases h2
 subst e;exact h cQ c' w' (hH.lG (hr cQ c') (fun _=>j6) (jw.weaken fun k _ hk=>hk) hn)
theorem GX.sZ [Fr]{t:TypeId}{el:TypeId}{sz aT:Nat}(hH:SH og w l:=by assumption)
  (ho:ops[i]?=some ⟨dst, .buildSlice t 0 #[],ty,pos,an,g⟩:=by rfl) (hf:cr P t el sz aT:=by infer_instance) (hw:aI ops e ⟨dst, .buildSlice t 0 #[],ty,pos,an,g⟩=some true:=by rfl) (hd:fits n dst=true:=by rfl)
  (h:∀q w',SH og w' (aq el sz q 0 0 []::l)→GX P ops Q (fun _=>True) n (bc (i+1) m) (e.put dst (.slice (aA q) 0 0)) w'):GX P ops Q (fun _=>True) n (bc i (m+1)) e w:=
 GX.GW ho hw hd fun b w' hb hO hE=>h (some b) w' (hH.cF hE (fun k hk=>by cases hk;omega) hO)
theorem GX.Js [Fr]{t:TypeId}{x y:Operand}{k1 k2:IntKind}{ln c:Int}{el:TypeId}{sz aT:Nat}{zl:List Value}(hH:SH og w l:=by assumption)
  (ho:ops[i]?=some ⟨dst, .makeSlice t x y,ty,pos,an,g⟩:=by rfl) (hf:cr P t el sz aT:=by infer_instance) (pc:xA P el=some zl:=by rfl) (hw:aI ops e ⟨dst, .makeSlice t x y,ty,pos,an,g⟩=some true:=by rfl) (hx:ev e x=some (.int k1 ln):=by rfl) (hy:ev e y=some (.int k2 c):=by rfl) (hd:fits n dst=true:=by rfl)
  (h0:0≤ln:=by omega) (BN:ln≤c:=by omega) (hb:(aT:Int)*c≤281474976710656:=by omega) (zz:c≤4611686018427387904:=by omega)
  (h:∀b w',SH og w' (aq el sz (some b) ln.toNat c.toNat ((List.replicate ln.toNat zl).flatten)::l)→GX P ops Q (fun _=>True) n (bc (i+1) m) (e.put dst (.slice (aA (some b)) ln.toNat c.toNat)) w'):GX P ops Q (fun _=>True) n (bc i (m+1)) e w:=
 GX.makeSlice ho pc hw hx hy hd h0 BN hb zz fun b w' hb hO hE=>h b w' (hH.cF hE (fun k hk=>by cases hk;omega) hO)
theorem GX.oF [Fr]{t:TypeId}{x:Operand}{v:Value}{vs:List Value}{el:TypeId}{sz aT:Nat}(hH:SH og w l:=by assumption)
  (ho:ops[i]?=some ⟨dst, .buildSlice t 1 #[(0,x)],ty,pos,an,g⟩:=by rfl) (hf:cr P t el sz aT:=by infer_instance) (hw:aI ops e ⟨dst, .buildSlice t 1 #[(0,x)],ty,pos,an,g⟩=some true:=by rfl) (hx:ev e x=some v:=by rfl) (hv:Cl v vs:=by first|exact Cl.agg|exact Cl.one rfl) (hl:vs.length=sz:=by rfl) (h0:Nat.blt 0 sz=true:=by rfl) (hz:Nat.ble sz 16777216=true:=by rfl) (j8:Nat.ble aT 140737488355328=true:=by rfl) (hd:fits n dst=true:=by rfl)
  (h:∀b w',SH og w' (aq el sz (some b) 1 1 vs::l)→GX P ops Q (fun _=>True) n (bc (i+1) m) (e.put dst (.slice (some ⟨b,0,none⟩) 1 1)) w'):GX P ops Q (fun _=>True) n (bc i (m+1)) e w:=
 GX.yR ho hw hx hv.eq hl h0 hz j8 hd fun b w' hb hO hE=>h b w' (hH.cF hE (fun k hk=>by cases hk;omega) hO)
theorem GX.nR [Fr]{d:Tmp}{x y:Operand}{t el:TypeId}{sz aT:Nat}{q:Option Nat}{len cap:Nat}{cs vs:List Value}{v:Value}{AV:TypeId}{AE:String}{zh:Array Edge}{qd:Option Nat→Nat→List It}(hH:SH og w l:=by assumption)
  (ho:ops[i]?=some ⟨some d, .buildSlice t 1 #[(0,y)],AV,AE,zh,none⟩:=by rfl) (z6:ops[i+1]?=some ⟨dst, .call ⟨.builtin .append,#[x, .tmp d],#[t,t]⟩,ty,pos,an,none⟩:=by rfl) (hf:cr P t el sz aT:=by infer_instance) (hy:ev e y=some v:=by rfl)
  (hx:∀b:Nat,ev ((d, .slice (some ⟨b,0,none⟩) 1 1)::e) x=some (.slice (aA q) len cap):=by intro _;rfl) (hv:Cl v vs:=by first|exact Cl.agg|exact Cl.one rfl) (hl:vs.length=sz:=by rfl) (h0:Nat.blt 0 sz=true:=by rfl) (hz:Nat.ble sz 16777216=true:=by rfl) (j8:Nat.ble aT 140737488355328=true:=by rfl) (hd:fits n dst=true:=by rfl) (fE:fits n (some d)=true:=by rfl)
  (h1:∀u∈vs,u.oneCell'=true) (hr:∀q' c',bA (aq el sz q len cap cs) (aq el sz q' (len+1) c' (cs++vs)) l (qd q' c'):=by intro _ _;repeat(first|exact bA.here|apply bA.there)) (hb:(len+1)*aT≤140737488355328:=by omega) (hm:len+1≤140737488355328:=by omega)
  (h:∀q' c' w' b,SH og w' (qd q' c')→GX P ops Q (fun _=>True) n (bc (i+1+1) m) (Env.put ((d, .slice (some ⟨b,0,none⟩) 1 1)::e) dst (.slice (aA q') (len+1) c')) w'):GX P ops Q (fun _=>True) n (bc i (m+1+1)) e w:=by
 refine GX.yR ho (by simp[aI]) hy hv.eq hl h0 hz j8 fE fun b w' uz hO hE=>?_
 exact GX.pQ (m2:=1) (c2:=1) (hH.ext hE) hO.bL z6 hf (by simp[aI]) (hx b) (by simp[ev,Env.put,look]) hd h0 ah h1 hr hb hm fun q' c' yY hS=>h q' c' yY b hS
theorem GX.yD [Fr]{κ ν:Type}[DecidableEq κ](kv:κ→Value)(vv:ν→Value){t:TypeId}(hH:SH og w l:=by assumption)
  (ho:ops[i]?=some ⟨dst, .makeMap t none,ty,pos,an,g⟩:=by rfl) (hw:aI ops e ⟨dst, .makeMap t none,ty,pos,an,g⟩=some true:=by rfl) (hd:fits n dst=true:=by rfl)
  (h:∀b w',SH og w' (aS b kv vv []::l)→GX P ops Q (fun _=>True) n (bc (i+1) m) (e.put dst (.map (some b))) w'):GX P ops Q (fun _=>True) n (bc i (m+1)) e w:=
 GX.makeMap kv vv ho hw hd fun b w' hb hM hE=>h b w' (hH.Oi hE hb hM)
theorem GX.Fy [Fr]{κ ν:Type}[DecidableEq κ]{kv:κ→Value}{vv:ν→Value}{M:List (κ×ν)}{t kt el:TypeId}{x y z:Operand}{a:κ}{v:ν}(hH:SH og w l:=by assumption)
  (ho:ops[i]?=some ⟨none, .mapUpdate t x y z,ty,pos,an,g⟩:=by rfl) (hu:bI P t (.map kt el):=by infer_instance) (hw:aI ops e ⟨none, .mapUpdate t x y z,ty,pos,an,g⟩=some true:=by rfl) (hx:ev e x=some (.map (some b)):=by rfl) (hr:bA (aS b kv vv M) (aS b kv vv (bC M a v)) l l':=by repeat(first|exact bA.here|apply bA.there)) (hk:kE P kv kt:=by infer_instance) (hy:ev e y=some (kv a):=by rfl) (hv:ev e z=some (vv v):=by rfl)
  (h:∀w',SH og w' l'→GX P ops Q (fun _=>True) n (bc (i+1) m) e w'):GX P ops Q (fun _=>True) n (bc i (m+1)) e w:=by
 obtain⟨_,hs,_⟩:=hr.perm;have hM:dY w b kv vv M:=let⟨_,_,h,_⟩:=(hH.perm hs).head;h;exact GX.mapUpdate hM hk ho hw hx hy hv fun w' uw hm=>h w' (hH.vi hr uw hm)
theorem GX.Jt [Fr]{κ ν:Type}[DecidableEq κ]{kv:κ→Value}{vv:ν→Value}{M:List (κ×ν)}{t kt el:TypeId}{x y:Operand}{t2:TypeId}{a:κ}(hH:SH og w l:=by assumption)
  (ho:ops[i]?=some ⟨dst, .call ⟨.builtin .delete,#[x,y],#[t,t2]⟩,ty,pos,an,g⟩:=by rfl) (hu:bI P t (.map kt el):=by infer_instance) (hw:aI ops e ⟨dst, .call ⟨.builtin .delete,#[x,y],#[t,t2]⟩,ty,pos,an,g⟩=some true:=by rfl) (hx:ev e x=some (.map (some b)):=by rfl) (hr:bA (aS b kv vv M) (aS b kv vv (bB M a)) l l':=by repeat(first|exact bA.here|apply bA.there)) (hk:kE P kv kt:=by infer_instance) (hy:ev e y=some (kv a):=by rfl) (hd:fits n dst=true:=by rfl)
  (h:∀w',SH og w' l'→GX P ops Q (fun _=>True) n (bc (i+1) m) (e.put dst (.tuple #[])) w'):GX P ops Q (fun _=>True) n (bc i (m+1)) e w:=by
 obtain⟨_,hs,_⟩:=hr.perm;have hM:dY w b kv vv M:=let⟨_,_,h,_⟩:=(hH.perm hs).head;h;exact GX.agN (t:=t) (kt:=kt) (el:=el) hM hk ho rfl hw hx hy hd fun w' uw hm=>h w' (hH.vi hr uw hm)
end
end Go.Proofs.YtoloaehmppcjoaaGreat.V.M
