/-
  Parts of the proof. No condition.
-/
import Derived.Test.YtoloaehmppcjoaaGreatW2ae
set_option linter.unusedVariables false
set_option linter.unusedSimpArgs false
set_option maxRecDepth 8000
set_option maxHeartbeats 8000000
namespace Go.Proofs.YtoloaehmppcjoaaGreat.V.M
attribute [local irreducible] GO GX
set_option linter.unusedSectionVars false
section
variable {κ ν:Type}[DecidableEq κ]
def ay:List (κ×ν)→κ→Option ν
 | [],_=>none
 |(a,v)::r,k=>if k=a then some v else ay r k
def bC:List (κ×ν)→κ→ν→List (κ×ν)
 | [],k,v=>[(k,v)]
 |(a,u)::r,k,v=>if k=a then(k,v)::r else(a,u)::bC r k v
def bB:List (κ×ν)→κ→List (κ×ν)
 | [],_=>[]
 |(a,u)::r,k=>if k=a then r else(a,u)::bB r k
theorem kU (M:List (κ×ν))(k:κ)(v:ν)(j:κ):ay (bC M k v) j=if j=k then some v else ay M j:=by
 induction M with
 |nil=>simp[bC,ay]
 |cons x M ih=>
  obtain⟨a,u⟩:=x
  by_cases hk:k=a
  ·subst hk;simp only[bC,if_true,ay];split<;>simp_all
  ·simp only[bC,hk,if_false,ay,ih]
   by_cases hj:j=a
   ·subst hj;simp only[if_true];rw[if_neg (fun h=>hk h.symm)]
   ·simp[hj]
theorem FA {M:List (κ×ν)}(hn:(M.map (·.1)).Nodup){k:κ}{v:ν}(h:(k,v)∈M):ay M k=some v:=by
 induction M with
 |nil=>cases h
 |cons x M ih=>
  obtain⟨a,u⟩:=x;simp only[cJ,eQ] at hn
  rcases bU.1 h with h|h
  ·cases h;simp[ay]
  ·have:k≠a:=fun e=>hn.1 (bG.2 ⟨(k,v),h,e⟩)
   simp[ay,this,ih hn.2 h]
theorem V1 {M:List (κ×ν)}{k:κ}{v:ν}(h:ay M k=some v):(k,v)∈M:=by
 induction M with
 |nil=>cases h
 |cons x M ih=>
  obtain⟨a,u⟩:=x;simp only[ay] at h;split at h
  ·rename_i hk;cases h;subst hk;exact oK
  ·exact fP _ (ih h)
theorem wM {M:List (κ×ν)}{k:κ}:ay M k=none↔k∉M.map (·.1):=by
 induction M with
 |nil=>simp[ay]
 |cons x M ih=>
  obtain⟨a,u⟩:=x;simp only[ay,cJ,bU,not_or];split
  ·rename_i h;simp[h]
  ·rename_i h;simp[h,ih]
theorem Jh (M:List (κ×ν))(k:κ)(v:ν):(bC M k v).map (·.1)=if k∈M.map (·.1) then M.map (·.1) else M.map (·.1)++[k]:=by
 induction M with
 |nil=>simp[bC]
 |cons x M ih=>
  obtain⟨a,u⟩:=x
  by_cases hk:k=a
  ·subst hk;simp[bC]
  ·simp only[bC,hk,if_false,cJ,ih,bU,false_or];split<;>simp
theorem sB {M:List (κ×ν)}(hn:(M.map (·.1)).Nodup)(k:κ)(v:ν):((bC M k v).map (·.1)).Nodup:=by
 rw[Jh];split
 ·exact hn
 ·rename_i h
  rw[ga];exact⟨hn,by simp,fun a ha b hb e=>by simp at hb;subst hb;subst e;exact h ha⟩
theorem agQ {M:List (κ×ν)}(hn:(M.map (·.1)).Nodup)(k:κ):bB M k=M.filter fun x=>decide (x.1≠k):=by
 induction M with
 |nil=>rfl
 |cons x M ih=>
  obtain⟨a,u⟩:=x;simp only[cJ,eQ] at hn
  by_cases hk:k=a
  ·subst hk;simp only[bB,if_true];rw[List.filter_cons_of_neg (by simp)]
   symm
   rw[oM];intro x hx;have:x.1≠k:=fun e=>hn.1 (bG.2 ⟨x,hx,e⟩)
   simpa using this
  ·rw[bB,if_neg hk,List.filter_cons_of_pos (by simpa using fun e:a=k=>hk e.symm),ih hn.2]
theorem xm (M:List (κ×ν))(k:κ):(bB M k).Sublist M:=by
 induction M with
 |nil=>exact List.Sublist.refl _
 |cons x M ih=>
  obtain⟨a,u⟩:=x;simp only[bB];split
  ·exact List.sublist_cons_self _ _
  ·exact ih.cons_cons _
theorem iS {M:List (κ×ν)}(hn:(M.map (·.1)).Nodup)(k j:κ):ay (bB M k) j=if j=k then none else ay M j:=by
 induction M with
 |nil=>simp[bB,ay]
 |cons x M ih=>
  obtain⟨a,u⟩:=x;simp only[cJ,eQ] at hn
  by_cases hk:k=a
  ·subst hk;simp only[bB,if_true,ay]
   by_cases hj:j=k
   ·subst hj;simp only[if_true];exact wM.2 hn.1
   ·simp[hj]
  ·simp only[bB,hk,if_false,ay,ih hn.2]
   by_cases hj:j=a
   ·subst hj;simp only[if_true];rw[if_neg (fun h=>hk h.symm)]
   ·simp[hj]
end
section
variable {κ ν:Type}{kv:κ→Value}{vv:ν→Value}
def EM (kv:κ→Value)(vv:ν→Value):List MapEntry→List (κ×ν)→Prop
 | [],[]=>True
 |x::E,y::M=>x.key=kv y.1∧x.val=vv y.2∧EM kv vv E M
 |_,_=>False
def dY (w:World)(b:Nat)(kv:κ→Value)(vv:ν→Value)(M:List (κ×ν)):Prop:=
 ∃(E:List MapEntry) (clock:Nat),w.heap[b]?=some (.map E.toArray clock)∧EM kv vv E M∧(E.map (·.born)).Nodup∧∀x∈E,x.born<clock
theorem dY.mod {S:Nat→Prop}{w w':World}{b:Nat}{M:List (κ×ν)}(h:dY w b kv vv M)(hm:Mod S w w')(hn:¬S b):dY w' b kv vv M:=
 let⟨E,c,h1,h2⟩:=h;⟨E,c,hm.row h1 hn,h2⟩
theorem dY.ext {w w':World}{b:Nat}{M:List (κ×ν)}(h:dY w b kv vv M)(hm:Ext w w'):dY w' b kv vv M:=h.mod hm id
theorem dY.lt {w:World}{b:Nat}{M:List (κ×ν)}(h:dY w b kv vv M):b<w.heap.size:=let⟨_,_,h1,_⟩:=h;(rA.1 h1).1
theorem EM.length:∀{E:List MapEntry}{M:List (κ×ν)},EM kv vv E M→E.length=M.length
 | [],[],_=>rfl
 |_::_,_::_,h=>by simp[EM.length h.2.2]
variable [DecidableEq κ]
def sO (k v:Value)(y:MapEntry):MapEntry:={ y with key:=k,val:=v}
def setAt:List MapEntry→Nat→(MapEntry→MapEntry)→List MapEntry
 | [],_,_=>[]
 |x::l,0,f=>f x::l
 |x::l,i+1,f=>x::setAt l i f
theorem FV (f:MapEntry→MapEntry):∀(E:List MapEntry) (i j:Nat),(setAt E i f)[j]?=if i=j then(E[j]?).map f else E[j]?
 | [],i,j=>by simp[setAt]
 |x::l,0,j=>by cases j<;>simp[setAt]
 |x::l,i+1,j=>by
  cases j with
  |zero=>simp[setAt]
  |succ j=>simp[setAt,FV f l i j]
theorem O6 (f:MapEntry→MapEntry)(E:List MapEntry)(i:Nat):E.toArray.modify i f=(setAt E i f).toArray:=by
 apply Array.ext_getElem?;intro j;rw[Array.getElem?_modify];simp[FV]
theorem FU {f:MapEntry→MapEntry}(hf:∀x,(f x).born=x.born):∀(E:List MapEntry) (i:Nat),(setAt E i f).map (·.born)=E.map (·.born)
 | [],_=>rfl
 |x::l,0=>by simp[setAt,hf]
 |x::l,i+1=>by simp[setAt,FU hf l i]
theorem abu (E:List MapEntry)(i:Nat):E.toArray.eraseIdxIfInBounds i=(E.eraseIdx i).toArray:=by
 by_cases h:i<E.length
 ·simp[Array.eraseIdxIfInBounds,h]
 ·simp[Array.eraseIdxIfInBounds,h,List.eraseIdx_of_length_le (Nat.le_of_not_lt h)]
class kE (P:Program) (kv:κ→Value) (kt:TypeId):Prop where
 out:∃d,P.underlying kt=some d∧(∀a b,Instr.sameNow d (kv a) (kv b)=some (decide (a=b)))∧(∀em a w,(Instr.checkKey em 10000 kt (kv a)).run P w = .ok () w)∧∀a,Instr.sameBits 10000 (kv a) (kv a)=true
variable {P:Program}
theorem DF {d:TypeDesc}(hs:∀a b,Instr.sameNow d (kv a) (kv b)=some (decide (a=b))){k:κ}:∀{E:List MapEntry}{M:List (κ×ν)}(i:Nat),EM kv vv E M→ay M k=none→Instr.findNow d (kv k) E i=some none
 | [],[],_,_,_=>rfl
 |x::E,(a,u)::M,i,h,hn=>by
  obtain⟨h1,_,h3⟩:=h;simp only[ay] at hn;split at hn
  ·cases hn
  ·rename_i hk
   simp only[Instr.findNow,h1,hs,hk,decide_false];exact DF hs (i+1) h3 hn
theorem DG {d:TypeDesc}(hs:∀a b,Instr.sameNow d (kv a) (kv b)=some (decide (a=b))){k:κ}{v:ν}:∀{E:List MapEntry}{M:List (κ×ν)}(i:Nat),EM kv vv E M→ay M k=some v →
  ∃j x,Instr.findNow d (kv k) E i=some (some (i+j,vv v))∧E[j]?=some x∧x.key=kv k∧(∀u,EM kv vv (setAt E j (sO (kv k) (vv u))) (bC M k u))∧EM kv vv (E.eraseIdx j) (bB M k)
 | [],[],_,_,hn=>nomatch hn
 | [],_::_,_,h,_=>nomatch h
 |x::E,(a,u)::M,i,h,hn=>by
  obtain⟨h1,h2,h3⟩:=h;simp only[ay] at hn;split at hn
  ·rename_i hk
   subst hk;cases hn;exact⟨0,x,by simp only[Instr.findNow,h1,hs,decide_true,h2,qy],rfl,h1,fun u=>by simp only[bC,if_true,setAt];exact⟨rfl,rfl,h3⟩,by simp only[bB,if_true,List.eraseIdx_cons_zero];exact h3⟩
  ·rename_i hk
   obtain⟨j,y,q1,q2,q3,q4,q5⟩:=DG hs (i+1) h3 hn;refine⟨j+1,y,?_,by simpa using q2,q3,fun u'=>?_,?_⟩
   ·simp only[Instr.findNow,h1,hs,hk,decide_false,q1];rw[show i+1+j=i+(j+1) by omega]
   ·simp only[bC,hk,if_false,setAt];exact⟨h1,h2,q4 u'⟩
   ·simp only[bB,hk,if_false,List.eraseIdx_cons_succ];exact⟨h1,h2,q5⟩
theorem EM.push {k:κ}{v:ν}{c:Nat}:∀{E:List MapEntry}{M:List (κ×ν)},EM kv vv E M→ay M k=none→EM kv vv (E++[⟨kv k,vv v,c⟩]) (bC M k v)
 | [],[],_,_=>⟨rfl,rfl,trivial⟩
 |x::E,(a,u)::M,h,hn=>by
  simp only[ay] at hn;split at hn
  ·cases hn
  ·rename_i hk
   simp only[bC,hk,if_false,jK];exact⟨h.1,h.2.1,h.2.2.push hn⟩
def mR (w:World)(b:Nat)(o:Obj):World:={ w with heap:=w.heap.setIfInBounds b o}
theorem Cp (w:World)(b:Nat)(o:Obj):Mod (· = b) w (mR w b o):=
 ⟨rfl,rfl,rfl,by simp[mR],fun k _ hk=>by simp only[mR];rw[Array.getElem?_setIfInBounds_ne (fun h=>hk h.symm)]⟩
theorem yN {w:World}{b:Nat}(o:Obj)(h:b<w.heap.size):(mR w b o).heap[b]?=some o:=by simp[mR,h]
theorem oY {w:World}{B clock:Nat}{E:Array MapEntry}(h:w.heap[B]?=some (.map E clock)):(getObj B).run P w = .ok (.map E clock) w:=by simp[getObj,Sem.run,h]
theorem AO {w:World}{B clock:Nat}{E:Array MapEntry}(h:w.heap[B]?=some (.map E clock))(o:Obj):(setObj B o).run P w = .ok () (mR w B o):=by simp[setObj,Sem.run,h,mR]
theorem HA {w:World}{B s c:Nat}{M:Option Nat}{sn:Array Nat}(h:w.heap[B]?=some (.mapIter M s sn c)):(getObj B).run P w = .ok (.mapIter M s sn c) w:=by simp[getObj,Sem.run,h]
theorem Xw {w:World}{B s c:Nat}{M:Option Nat}{sn:Array Nat}(h:w.heap[B]?=some (.mapIter M s sn c))(o:Obj):(setObj B o).run P w = .ok () (mR w B o):=by simp[setObj,Sem.run,h,mR]
def jA (vv:ν→Value)(Z:Value)(ok:Bool):Option ν→Value
 |some v=>if ok then .tuple #[vv v, .bool true] else vv v
 |none=>if ok then .tuple #[Z, .bool false] else Z
theorem Xh {w:World}{b:Nat}{M:List (κ×ν)}(hM:dY w b kv vv M){t kt el:TypeId}(hu:P.underlying t=some (.map kt el))(hk:kE P kv kt){Z:Value}(hz:∀w,(zeroValue el).run P w = .ok Z w)(k:κ)(ok:Bool) :
  (Instr.lookup t (.map (some b)) (kv k) ok).run P w = .ok (jA vv Z ok (ay M k)) w:=by
 obtain⟨d,hd,hs,hc,_⟩:=hk.out;obtain⟨E,c,h1,h2,_,_⟩:=hM;cases hg:ay M k with
 |none=>
  have hf:=DF hs 0 h2 hg;have o7:(Instr.findKey kt (kv k) E).run P w = .ok none w:=by simp[Instr.findKey,run_underlying hd,hf]
  cases ok<;>simp[Instr.lookup,run_underlying hu,oY h1,hc,o7,hz,jA]
 |some v=>
  obtain⟨j,x,hf,_⟩:=DG hs 0 h2 hg;have o7:(Instr.findKey kt (kv k) E).run P w = .ok (some (0+j,vv v)) w:=by simp[Instr.findKey,run_underlying hd,hf]
  cases ok<;>simp[Instr.lookup,run_underlying hu,oY h1,hc,o7,jA]
theorem O1 {w:World}{b:Nat}{M:List (κ×ν)}(hM:dY w b kv vv M){t kt el:TypeId}(hu:P.underlying t=some (.map kt el))(hk:kE P kv kt)(k:κ)(v:ν) :
  ∃w',(Instr.mapUpdate t (.map (some b)) (kv k) (vv v)).run P w = .ok () w'∧dY w' b kv vv (bC M k v)∧Mod (· = b) w w':=by
 obtain⟨d,hd,hs,hc,hb⟩:=hk.out;have aN:=hM.lt;obtain⟨E,c,h1,h2,h3,h4⟩:=hM;cases hg:ay M k with
 |none=>
  have hf:=DF hs 0 h2 hg;have o7:(Instr.findKey kt (kv k) E).run P w = .ok none w:=by simp[Instr.findKey,run_underlying hd,hf]
  refine⟨mR w b (.map (E++[(⟨kv k,vv v,c⟩:MapEntry)]).toArray (c+1)),?_,⟨_,_,yN _ aN,h2.push hg,?_,?_⟩,Cp _ _ _⟩
  ·simp only[Instr.mapUpdate,Sem.run_bind,run_underlying hu,Result.andThen_ok,oY h1,hc,List.toList_toArray,o7];rw[AO h1];simp
  ·rw[eA,ga];refine⟨h3,by simp,fun a ha q hq e=>?_⟩;simp at hq;subst hq;subst e;obtain⟨x,hx,he⟩:=bG.1 ha;have:=h4 x hx;omega
  ·intro x hx
   rcases cx.1 hx with hx|hx
   ·have:=h4 x hx;omega
   ·simp at hx;subst hx;exact Nat.lt_succ_self _
 |some u=>
  obtain⟨j,x,hf,hx,eS,Ad,_⟩:=DG hs 0 h2 hg;have o7:(Instr.findKey kt (kv k) E).run P w = .ok (some (0+j,vv u)) w:=by simp[Instr.findKey,run_underlying hd,hf]
  refine⟨mR w b (.map (setAt E j (sO (kv k) (vv v))).toArray c),?_,⟨_,_,yN _ aN,Ad v,?_,?_⟩,Cp _ _ _⟩
  ·simp only[Instr.mapUpdate,Sem.run_bind,run_underlying hu,Result.andThen_ok,oY h1,hc,List.toList_toArray,o7];simp only[dz,List.getElem?_toArray,hx,jV,oN,eS];rw[show(Instr.keyThatStays (kv k) (kv k)).run P w = .ok (kv k) w by simp[Instr.keyThatStays,hb]];simp only[Result.andThen_ok];rw[show(fun e:MapEntry=>({ e with key:=kv k,val:=vv v}:MapEntry))=sO (kv k) (vv v) from rfl,O6];rw[AO h1]
  ·rw[FU (f:=sO (kv k) (vv v)) fun _=>rfl];exact h3
  ·intro y hy;have:y.born∈(setAt E j (sO (kv k) (vv v))).map (·.born):=bG.2 ⟨y,hy,rfl⟩;rw[FU (f:=sO (kv k) (vv v)) fun _=>rfl] at this;obtain⟨z,hz,he⟩:=bG.1 this;have:=h4 z hz;omega
theorem WK {w:World}{b:Nat}{o:Obj}(h:w.heap[b]?=some o):mR w b o=w:=by
 have aN:=(rA.1 h).1;have:w.heap.setIfInBounds b o=w.heap:=by
  apply Array.ext_getElem?;intro j
  by_cases hj:b=j
  ·subst hj;rw[h];simp[aN]
  ·rw[Array.getElem?_setIfInBounds_ne hj]
 cases w;simp only[mR] at this ⊢;rw[this]
theorem Xb {w:World}{b:Nat}{M:List (κ×ν)}(hM:dY w b kv vv M){t kt el:TypeId}(hu:P.underlying t=some (.map kt el))(hk:kE P kv kt){ts:Array TypeId}(I3:ts[0]?=some t)(ty:TypeId)(k:κ) :
  ∃w',(Builtin.delete_ ts ty #[.map (some b),kv k]).run P w = .ok (.tuple #[]) w'∧dY w' b kv vv (bB M k)∧Mod (· = b) w w':=by
 obtain⟨d,hd,hs,hc,hb⟩:=hk.out;have aN:=hM.lt;have uw:=hM;obtain⟨E,c,h1,h2,h3,h4⟩:=hM;cases hg:ay M k with
 |none=>
  have hf:=DF hs 0 h2 hg;have o7:(Instr.findKey kt (kv k) E).run P w = .ok none w:=by simp[Instr.findKey,run_underlying hd,hf]
  have xY:bB M k=M:=by
   have:=wM.1 hg;clear hf hg h2 uw
   induction M with
   |nil=>rfl
   |cons x M ih=>
    obtain⟨a,u⟩:=x;simp only[cJ,bU,not_or] at this;simp[bB,this.1,ih this.2]
  refine⟨w,?_,by rw[xY];exact uw,Mod.refl w⟩;simp only[Builtin.delete_,I3,List.getElem?_toArray,List.getElem?_cons_zero,List.getElem?_cons_succ,Sem.run_bind,run_underlying hu,Result.andThen_ok,oY h1,hc,List.toList_toArray,o7,AO h1,Sem.run_pure,WK h1]
 |some u=>
  obtain⟨j,x,hf,hx,eS,_,Ig⟩:=DG hs 0 h2 hg;have o7:(Instr.findKey kt (kv k) E).run P w = .ok (some (0+j,vv u)) w:=by simp[Instr.findKey,run_underlying hd,hf]
  have eO:(E.eraseIdx j).Sublist E:=List.eraseIdx_sublist _ _;refine⟨mR w b (.map (E.eraseIdx j).toArray c),?_,⟨_,_,yN _ aN,Ig,h3.sublist (eO.map _),fun y hy=>h4 y (eO.subset hy)⟩,Cp _ _ _⟩;simp only[Builtin.delete_,I3,List.getElem?_toArray,List.getElem?_cons_zero,List.getElem?_cons_succ,Sem.run_bind,run_underlying hu,Result.andThen_ok,oY h1,hc,List.toList_toArray,o7,AO h1,Sem.run_pure,dz,abu]
end
set_option linter.unusedSectionVars false
section
variable {P:Program}{ops:Array Oper}{Q:Exit→Act→World→Prop}{S:World→Prop}{n:Nat}
variable {i m:Nat}{p:b6}{e:Env}{w:World}{k:Kd}{dst:Option Tmp}{ty:TypeId}{pos:String}{an:Array Edge}{g:Option (Nat×Bool)}
variable {κ ν:Type}[DecidableEq κ]{kv:κ→Value}{vv:ν→Value}{b:Nat}{M:List (κ×ν)}{t kt el:TypeId}
theorem KV (a b:ByteArray):(a == b)=decide (a=b):=by
 rw[beq_toListBytes,Bool.beq_eq_decide_eq];simp only[Ps]
abbrev iV (z:Int):Value := .int .i64 z
abbrev uV (z:Nat):Value := .int .u64 z
instance ae0 [h:bI P kt .string]:kE P str kt:=⟨.string,h.out,fun a b=>by
 have:(⟨a.toArray⟩:ByteArray)=⟨b.toArray⟩↔a=b:=by
  constructor
  ·intro h;cases h;rfl
  ·rintro rfl;rfl
 have hb:((⟨a.toArray⟩:ByteArray) == ⟨b.toArray⟩)=decide (a=b):=by rw[KV,vw];exact this
 simp[str,Instr.sameNow,hb],fun em a w=>by
 rw[show(10000:Nat)=9999+1 from rfl,Instr.checkKey];simp[run_underlying h.out,str],fun a=>by simp[Instr.sameBits,str,KV]⟩
theorem Ur {ik:IntKind}(h:bI P kt (.int ik))(f:κ→Int)(hf:∀a b,f a=f b→a=b):kE P (fun a:κ=>Value.int ik (f a)) kt:=⟨.int ik,h.out,fun a b=>by
 have:(f a == f b)=decide (a=b):=by
  by_cases fg:a=b
  ·subst fg;simp
  ·rw[bQ fg,beq_eq_false_iff_ne];exact fun h=>fg (hf _ _ h)
 simp[Instr.sameNow,this],fun em a w=>by
 rw[show(10000:Nat)=9999+1 from rfl,Instr.checkKey];simp[run_underlying h.out],fun a=>by simp[Instr.sameBits]⟩
instance am5 [h:bI P kt (.int .i64)]:kE P iV kt:=Ur h id fun _ _ h=>h
instance am6 [h:bI P kt (.int .u64)]:kE P uV kt:=Ur h (fun n:Nat=>(n:Int)) fun _ _ h=>Int.ofNat.inj h
class mv (P:Program) (t:TypeId) (Z:outParam Value):Prop where
 out:∀w,(zeroValue t).run P w = .ok Z w
def Yv (P:Program)(t:TypeId):Option Value:=
 match P.info? t with
 |some i=>i.zero
 |none=>none
theorem mv.of {Z:Value}(h:Yv P t=some Z):mv P t Z:=⟨fun w=>by
 unfold Yv at h;split at h
 ·rename_i i hi;simp[zeroValue,typeInfo,hi,h]
 ·cases h⟩
theorem GX.lookup [Fr]{x y:Operand}{ok:Bool}{a:κ}{Z:Value}(hM:dY w b kv vv M)(hk:kE P kv kt)(hz:∀w,(zeroValue el).run P w = .ok Z w)
  (ho:ops[i]?=some ⟨dst, .lookup t x y ok,ty,pos,an,g⟩) [hu:bI P t (.map kt el)] (hw:aI ops e ⟨dst, .lookup t x y ok,ty,pos,an,g⟩=some true) (hx:ev e x=some (.map (some b))) (hy:ev e y=some (kv a)) (hd:fits n dst=true)
  (h:GX P ops Q S n (bc (i+1) m) (e.put dst (jA vv Z ok (ay M a))) w):GX P ops Q S n (bc i (m+1)) e w:=
 GX.aw ho (GO.run (R:=fun u w'=>u=jA vv Z ok (ay M a)∧w'=w) hw hd (fun ac ha=>⟨_,_,w,by simp[execOp,bE ha hx,bE ha hy,Xh hM hu.out hk hz a ok], .inl rfl,rfl,rfl⟩) (by rintro _ _ ⟨rfl,rfl⟩;exact⟨fun _ h=>h,h⟩))
theorem GX.mapUpdate [Fr]{x y z:Operand}{a:κ}{v:ν}(hM:dY w b kv vv M)(hk:kE P kv kt)
  (ho:ops[i]?=some ⟨none, .mapUpdate t x y z,ty,pos,an,g⟩) [hu:bI P t (.map kt el)] (hw:aI ops e ⟨none, .mapUpdate t x y z,ty,pos,an,g⟩=some true) (hx:ev e x=some (.map (some b))) (hy:ev e y=some (kv a)) (hv:ev e z=some (vv v))
  (h:∀w',dY w' b kv vv (bC M a v)→Mod (· = b) w w'→GX P ops Q (fun _=>True) n (bc (i+1) m) e w'):GX P ops Q (fun _=>True) n (bc i (m+1)) e w:=by
 obtain⟨w1,h1,h2,h3⟩:=O1 hM hu.out hk a v;exact GX.aw ho (GO.run (R:=fun _ w'=>w'=w1) hw rfl (fun ac ha=>⟨.skip,undef,_,by simp[execOp,bE ha hx,bE ha hy,bE ha hv,h1], .inr ⟨rfl,rfl⟩,rfl⟩) (by rintro _ _ rfl;exact⟨fun _ _=>trivial,h _ h2 h3⟩))
theorem GX.mapInsert [Fr]{x y z:Operand}{a:κ}{v:ν}(hM:dY w b kv vv M)(hk:kE P kv kt)
  (ho:ops[i]?=some ⟨none, .insert t x y z,ty,pos,an,g⟩) [hu:bI P t (.map kt el)] (hw:aI ops e ⟨none, .insert t x y z,ty,pos,an,g⟩=some true) (hx:ev e x=some (.map (some b))) (hy:ev e y=some (kv a)) (hv:ev e z=some (vv v))
  (h:∀w',dY w' b kv vv (bC M a v)→Mod (· = b) w w'→GX P ops Q (fun _=>True) n (bc (i+1) m) e w'):GX P ops Q (fun _=>True) n (bc i (m+1)) e w:=by
 obtain⟨w1,h1,h2,h3⟩:=O1 hM hu.out hk a v;exact GX.aw ho (GO.run (R:=fun _ w'=>w'=w1) hw rfl (fun ac ha=>⟨.skip,undef,_,by simp[execOp,bE ha hx,bE ha hy,bE ha hv,h1], .inr ⟨rfl,rfl⟩,rfl⟩) (by rintro _ _ rfl;exact⟨fun _ _=>trivial,h _ h2 h3⟩))
theorem GX.agN [Fr]{x y:Operand}{ts:Array TypeId}{a:κ}(hM:dY w b kv vv M)(hk:kE P kv kt)
  (ho:ops[i]?=some ⟨dst, .call ⟨.builtin .delete,#[x,y],ts⟩,ty,pos,an,g⟩) (I3:ts[0]?=some t) [hu:bI P t (.map kt el)] (hw:aI ops e ⟨dst, .call ⟨.builtin .delete,#[x,y],ts⟩,ty,pos,an,g⟩=some true) (hx:ev e x=some (.map (some b))) (hy:ev e y=some (kv a)) (hd:fits n dst=true)
  (h:∀w',dY w' b kv vv (bB M a)→Mod (· = b) w w'→GX P ops Q (fun _=>True) n (bc (i+1) m) (e.put dst (.tuple #[])) w'):GX P ops Q (fun _=>True) n (bc i (m+1)) e w:=by
 obtain⟨w1,h1,h2,h3⟩:=Xb hM hu.out hk I3 ty a;exact GX.aw ho (GO.run (R:=fun u w'=>u = .tuple #[]∧w'=w1) hw hd (fun ac ha=>⟨_,_,w1,by simp[execOp,resolve,invoke,builtin,bE ha hx,bE ha hy,h1], .inl rfl,rfl,rfl⟩) (by rintro _ _ ⟨rfl,rfl⟩;exact⟨fun _ _=>trivial,h _ h2 h3⟩))
theorem aje (hM:dY w b kv vv M)(hu:P.underlying t=some (.map kt el)):(Builtin.len_ #[t] ty #[.map (some b)]).run P w = .ok (.int .i64 M.length) w:=by
 obtain⟨E,c,h1,h2,_⟩:=hM;simp[Builtin.len_,run_underlying hu,goInt,h2.length,oY h1]
theorem GX.NU [Fr]{x:Operand}(hM:dY w b kv vv M)
  (ho:ops[i]?=some ⟨dst, .call ⟨.builtin .len,#[x],#[t]⟩,ty,pos,an,g⟩) [hu:bI P t (.map kt el)] (hw:aI ops e ⟨dst, .call ⟨.builtin .len,#[x],#[t]⟩,ty,pos,an,g⟩=some true) (hx:ev e x=some (.map (some b))) (hd:fits n dst=true)
  (h:GX P ops Q S n (bc (i+1) m) (e.put dst (.int .i64 M.length)) w):GX P ops Q S n (bc i (m+1)) e w:=
 GX.aw ho (GO.run (R:=fun u w'=>u = .int .i64 M.length∧w'=w) hw hd (fun ac ha=>⟨_,_,w,by simp[execOp,resolve,invoke,builtin,bE ha hx,aje hM hu.out], .inl rfl,rfl,rfl⟩) (by rintro _ _ ⟨rfl,rfl⟩;exact⟨fun _ h=>h,h⟩))
theorem GX.makeMap [Fr](kv:κ→Value)(vv:ν→Value)
  (ho:ops[i]?=some ⟨dst, .makeMap t none,ty,pos,an,g⟩) (hw:aI ops e ⟨dst, .makeMap t none,ty,pos,an,g⟩=some true) (hd:fits n dst=true)
  (h:∀b w',b=w.heap.size→dY w' b kv vv []→Ext w w'→GX P ops Q (fun _=>True) n (bc (i+1) m) (e.put dst (.map (some b))) w'):GX P ops Q (fun _=>True) n (bc i (m+1)) e w:=
 GX.aw ho (GO.run (R:=fun u w'=>u = .map (some w.heap.size)∧w'=w.alloc (.map #[] 0)) hw hd (fun ac ha=>⟨_,_,_,by simp[execOp,Instr.makeMap], .inl rfl,rfl,rfl⟩)
  (by rintro _ _ ⟨rfl,rfl⟩;exact⟨fun _ _=>trivial,h _ _ rfl ⟨[],0,heap_alloc_new w _,trivial,lP,fun _ h=>by cases h⟩ (Ext.alloc w _)⟩))
def nN (w:World)(it b:Nat)(kv:κ→Value)(vv:ν→Value)(M R:List (κ×ν)):Prop:=
 ∃(E:List MapEntry) (clock since last:Nat) (seen:List Nat),w.heap[b]?=some (.map E.toArray clock)∧EM kv vv E M∧(E.map (·.born)).Nodup∧(∀x∈E,x.born<clock) ∧
  w.heap[it]?=some (.mapIter (some b) since seen.toArray last)∧clock≤since∧clock≤last∧EM kv vv (E.filter fun x=>!seen.contains x.born) R
theorem nN.map {w:World}{it:Nat}{R:List (κ×ν)}(h:nN w it b kv vv M R):dY w b kv vv M:=let⟨E,c,_,_,_,h1,h2,h3,h4,_⟩:=h;⟨E,c,h1,h2,h3,h4⟩
theorem nN.mod {T:Nat→Prop}{w w':World}{it:Nat}{R:List (κ×ν)}(h:nN w it b kv vv M R)(hm:Mod T w w')(hn:¬T b)(hi:¬T it):nN w' it b kv vv M R:=
 let⟨E,c,s,l,sn,h1,h2,h3,h4,h5,h6⟩:=h;⟨E,c,s,l,sn,hm.row h1 hn,h2,h3,h4,hm.row h5 hi,h6⟩
theorem nN.lt {w:World}{it:Nat}{R:List (κ×ν)}(h:nN w it b kv vv M R):it<w.heap.size:=let⟨_,_,_,_,_,_,_,_,_,h1,_⟩:=h;(rA.1 h1).1
theorem GX.range [Fr]{x:Operand}(hM:dY w b kv vv M)
  (ho:ops[i]?=some ⟨dst, .range t x,ty,pos,an,g⟩) [hu:bI P t (.map kt el)] (hw:aI ops e ⟨dst, .range t x,ty,pos,an,g⟩=some true) (hx:ev e x=some (.map (some b))) (hd:fits n dst=true)
  (h:∀it w',it=w.heap.size→nN w' it b kv vv M M→Ext w w'→GX P ops Q (fun _=>True) n (bc (i+1) m) (e.put dst (.pointer (some ⟨it,0,none⟩))) w'):GX P ops Q (fun _=>True) n (bc i (m+1)) e w:=by
 obtain⟨E,c,h1,h2,h3,h4⟩:=hM;refine GX.aw ho (GO.run (R:=fun u w'=>u = .pointer (some ⟨w.heap.size,0,none⟩)∧w'=w.alloc (.mapIter (some b) c #[] c)) hw hd (fun ac ha=>⟨_,_,_,by simp[execOp,bE ha hx,Instr.range,run_underlying hu.out,oY h1], .inl rfl,rfl,rfl⟩) ?_);rintro _ _ ⟨rfl,rfl⟩;have hE:=Ext.alloc w (.mapIter (some b) c #[] c);refine⟨fun _ _=>trivial,h _ _ rfl ⟨E,c,c,c,[],hE.row h1 id,h2,h3,h4,heap_alloc_new w _,aY _,aY _,?_⟩ hE⟩;rw[oM.2 (by simp)];exact h2
theorem EM.split:∀{E:List MapEntry}{M:List (κ×ν)}{x:MapEntry},EM kv vv E M→x∈E→∃y M1 M2 E1 E2,M=M1++y::M2∧E=E1++x::E2∧x.key=kv y.1∧x.val=vv y.2∧EM kv vv (E1++E2) (M1++M2)
 |x::E,y::M,z,h,hz=>by
  obtain⟨h1,h2,h3⟩:=h
  rcases bU.1 hz with rfl|hz
  ·exact⟨y,[],M,[],E,rfl,rfl,h1,h2,h3⟩
  ·obtain⟨u,M1,M2,E1,E2,q1,q2,q3,q4,q5⟩:=h3.split hz;exact⟨u,y::M1,M2,x::E1,E2,by simp[q1],by simp[q2],q3,q4,h1,h2,q5⟩
def A6 (w:World)(it:Nat)(K V:Value):Prop:=
 ∃(m:Nat) (E:List MapEntry) (c s st:Nat) (seen:List Nat) (x:MapEntry),w.heap[it]?=some (.mapIter (some m) s seen.toArray c)∧w.heap[m]?=some (.map E.toArray c)∧seen.getLast?=some st∧E.find? (fun z=>z.born == st)=some x∧x.key=K∧x.val=V
theorem ai8 {it:Nat}{K V:Value}(h:A6 w it K V):(Instr.entry (.pointer (some ⟨it,0,none⟩))).run P w = .ok (.tuple #[K,V]) w:=by
 obtain⟨m,E,c,s,st,seen,x,h1,h2,h3,h4,rfl,rfl⟩:=h;have hb:seen.toArray.back?=some st:=by simpa using h3
 have hf:E.toArray.find? (fun z=>z.born == st)=some x:=by simpa using h4
 simp[Instr.entry,HA h1,oY h2,hb,hf]
theorem find_born:∀{E:List MapEntry}{x:MapEntry},(E.map (·.born)).Nodup→x∈E→E.find? (fun z=>z.born == x.born)=some x
 |y::E,x,hn,hx=>by
  simp only[cJ,eQ] at hn
  rcases bU.1 hx with rfl|hx
  ·simp
  ·have:y.born≠x.born:=fun e=>hn.1 (bG.2 ⟨x,hx,e.symm⟩)
   rw[List.find?_cons_of_neg (by simpa using this)];exact find_born hn.2 hx
theorem ajf {it:Nat}{R:List (κ×ν)}(h:nN w it b kv vv M R) :
  (R=[]∧(Instr.next (.pointer (some ⟨it,0,none⟩)) false ty).run P w = .ok (.tuple #[.bool false]) w) ∨
  ∃y R1 R2 w',R=R1++y::R2∧(Instr.next (.pointer (some ⟨it,0,none⟩)) false ty).run P w = .ok (.tuple #[.bool true,kv y.1,vv y.2]) w'∧nN w' it b kv vv M (R1++R2)∧Mod (· = it) w w'∧A6 w' it (kv y.1) (vv y.2):=by
 obtain⟨E,c,since,last,seen,h1,h2,h3,h4,h5,h6,h7,h8⟩:=h;have aN:=(rA.1 h5).1;have BB:it≠b:=fun e=>by subst e;rw[h1] at h5;cases h5
 have hg:(!seen.toArray.isEmpty&&!E.toArray.isEmpty&&E.toArray.all (·.born≥last))=false:=by
  cases E with
  |nil=>simp
  |cons x E=>
   have:=h4 x oK;have hx:decide (x.born≥last)=false:=bQ ah;simp[hx]
 have hold:(E.toArray.filter fun x=>!seen.toArray.contains x.born).filter (fun x=>decide (x.born<since))=(E.filter fun x=>!seen.contains x.born).toArray:=by
  rw[show(E.toArray.filter fun x=>!seen.toArray.contains x.born).filter (fun x=>decide (x.born<since))=((E.filter fun x=>!seen.contains x.born).filter fun x=>decide (x.born<since)).toArray by simp];congr 1;rw[oM];intro x hx;have:=h4 x (fR.1 hx).1;exact b8 ah
 have om:(E.toArray.filter fun x=>!seen.toArray.contains x.born).filter (fun x=>decide (x.born≥since))=#[]:=by
  rw[show(E.toArray.filter fun x=>!seen.toArray.contains x.born).filter (fun x=>decide (x.born≥since))=((E.filter fun x=>!seen.contains x.born).filter fun x=>decide (x.born≥since)).toArray by simp];rw[show(#[]:Array MapEntry)=([]:List MapEntry).toArray from rfl];congr 1;rw[List.filter_eq_nil_iff];intro x hx;have:=h4 x (fR.1 hx).1;simp;omega
 generalize hL:(E.filter fun x=>!seen.contains x.born)=L at hold h8;cases L with
 |nil=>
  have hR:R=[]:=by
   cases R with
   |nil=>rfl
   |cons y R=>exact h8.elim
  refine .inl ⟨hR,?_⟩;simp only[Instr.next,Sem.run_bind,HA h5,Result.andThen_ok,oY h1];simp only[hg,vA,if_false,hold,om];simp[Question.forced]
 |cons x0 L0=>
  right;have main:∀(x:MapEntry) (w0:World),x∈x0::L0→w0.heap=w.heap→Ext w w0→(Instr.next (.pointer (some ⟨it,0,none⟩)) false ty).run P w = .ok (.tuple #[.bool true,x.key,x.val]) (mR w0 it (.mapIter (some b) since (seen++[x.born]).toArray c)) →
    ∃y R1 R2 w',R=R1++y::R2∧(Instr.next (.pointer (some ⟨it,0,none⟩)) false ty).run P w = .ok (.tuple #[.bool true,kv y.1,vv y.2]) w'∧nN w' it b kv vv M (R1++R2)∧Mod (· = it) w w'∧A6 w' it (kv y.1) (vv y.2):=by
   intro x w0 hx hh hE hr;obtain⟨y,R1,R2,E1,E2,q1,q2,q3,q4,q5⟩:=h8.split hx;have hm:Mod (· = it) w (mR w0 it (.mapIter (some b) since (seen++[x.born]).toArray c)):=(Ext.mod hE).trans (Cp _ _ _);refine⟨y,R1,R2,_,q1,by rw[hr,q3,q4],⟨E,c,since,c,seen++[x.born],hm.row h1 (fun e=>BB e.symm),h2,h3,h4,yN _ (by rw[hh];exact aN),h6,aY _,?_⟩,hm,b,E,c,since,x.born,_,x,yN _ (by rw[hh];exact aN),hm.row h1 (fun e=>BB e.symm),by simp,find_born h3 (fR.1 (hL▸hx)).1,q3,q4⟩;have hf:(E.filter fun z=>!(seen++[x.born]).contains z.born)=E1++E2:=by
    have e1:(E.filter fun z=>!(seen++[x.born]).contains z.born)=(E1++x::E2).filter fun z=>z.born != x.born:=by
     rw[←q2,←hL,List.filter_filter];congr 1;funext z
     by_cases h1:z.born=x.born<;>simp[h1]
    have bT:((E1++x::E2).map (·.born)).Nodup:=by rw[←q2,←hL];exact h3.sublist (List.filter_sublist.map _)
    rw[e1,vu,List.filter_cons_of_neg (by simp)];rw[eA,cJ,ga,eQ] at bT;obtain⟨_,⟨n1,_⟩,n2⟩:=bT;rw[oM.2 fun z hz=>by simpa using n2 _ (bG.2 ⟨z,hz,rfl⟩) _ oK,oM.2 fun z hz=>by
     have:z.born≠x.born:=fun e=>n1 (bG.2 ⟨z,hz,e⟩)
     simpa using this]
   rw[hf];exact q5
  cases L0 with
  |nil=>
   refine main x0 w oK rfl (Mod.refl w) ?_;simp only[Instr.next,Sem.run_bind,HA h5,Result.andThen_ok,oY h1];simp only[hg,vA,if_false,hold,om];simp[Question.forced,Xw h5]
  |cons x1 L0=>
   have hlen:0<(x0::x1::L0).length:=by simp
   obtain⟨j,hj,p7⟩:∃j,Question.cut (.mapNext (x0::x1::L0).length) (w.tape w.drawn (.mapNext (x0::x1::L0).length))=j∧j<(x0::x1::L0).length:=
    ⟨_,rfl,by simp only[Question.cut];exact e7 _ hlen⟩
   refine main (x0::x1::L0)[j] w.drew (pI p7) rfl (Ext.drew w) ?_;have hd:w.drew.heap[it]?=some (.mapIter (some b) since seen.toArray last):=h5;have hf:Question.forced (.mapNext (x0::x1::L0).length)=false:=by simp[Question.forced]
   have jR:((if(x0::x1::L0).toArray.isEmpty=true then #[none] else #[])++((x0::x1::L0).toArray++(#[]:Array MapEntry)).map some:Array (Option MapEntry))=((x0::x1::L0).map some).toArray:=by simp
   simp only[Instr.next,Sem.run_bind,HA h5,Result.andThen_ok,oY h1];simp only[hg,vA,if_false,hold,om,jR];simp only[xu,fH,Sem.run_bind,run_choose,hf,vA,if_false,Result.andThen_ok,hj];have jc:((x0::x1::L0).map some).toArray[j]?=some (some (x0::x1::L0)[j]):=by
    rw[List.getElem?_toArray,gG,bO p7];rfl
   simp only[jc];have si:=Xw (P:=P) hd (.mapIter (some b) since (seen.toArray.push (x0::x1::L0)[j].born) c);have hdw:({ w with drawn:=w.drawn+1}:World)=w.drew:=rfl;simp only[Sem.run_bind,hdw,si,Result.andThen_ok,Sem.run_pure];simp
theorem GX.Wd [Fr]{x:Operand}{it:Nat}{R:List (κ×ν)}(hM:nN w it b kv vv M R)
  (ho:ops[i]?=some ⟨dst, .next x false,ty,pos,an,g⟩) (hw:aI ops e ⟨dst, .next x false,ty,pos,an,g⟩=some true) (hx:ev e x=some (.pointer (some ⟨it,0,none⟩))) (hd:fits n dst=true)
  (h0:R=[]→GX P ops Q (fun _=>True) n (bc (i+1) m) (e.put dst (.tuple #[.bool false])) w)
  (h1:∀y R1 R2 w',R=R1++y::R2→nN w' it b kv vv M (R1++R2)→Mod (· = it) w w'→A6 w' it (kv y.1) (vv y.2)→GX P ops Q (fun _=>True) n (bc (i+1) m) (e.put dst (.tuple #[.bool true,kv y.1,vv y.2])) w'):GX P ops Q (fun _=>True) n (bc i (m+1)) e w:=by
 rcases ajf (P:=P) (ty:=ty) hM with⟨hR,hr⟩|⟨y,R1,R2,w1,hR,hr,h2,h3,h4⟩
 ·exact GX.aw ho (GO.run (R:=fun u w'=>u = .tuple #[.bool false]∧w'=w) hw hd (fun ac ha=>⟨_,_,w,by simp[execOp,bE ha hx,hr], .inl rfl,rfl,rfl⟩) (by rintro _ _ ⟨rfl,rfl⟩;exact⟨fun _ _=>trivial,h0 hR⟩))
 ·exact GX.aw ho (GO.run (R:=fun u w'=>u = .tuple #[.bool true,kv y.1,vv y.2]∧w'=w1) hw hd (fun ac ha=>⟨_,_,w1,by simp[execOp,bE ha hx,hr], .inl rfl,rfl,rfl⟩) (by rintro _ _ ⟨rfl,rfl⟩;exact⟨fun _ _=>trivial,h1 _ _ _ _ hR h2 h3 h4⟩))
theorem GO.entry [Fr]{x:Operand}{it:Nat}{K V:Value}(hw:aI ops e ⟨dst, .entry x,ty,pos,an,g⟩=some true)(hx:ev e x=some (.pointer (some ⟨it,0,none⟩)))(hd:fits n dst=true)(hE:A6 w it K V)
  (h:GX P ops Q S n p (e.put dst (.tuple #[K,V])) w):GO P ops Q S n .aw i ⟨dst, .entry x,ty,pos,an,g⟩ p e w:=
 GO.run (R:=fun u w'=>u = .tuple #[K,V]∧w'=w) hw hd (fun ac ha=>⟨_,_,w,by simp[execOp,bE ha hx,ai8 hE], .inl rfl,rfl,rfl⟩) (by rintro _ _ ⟨rfl,rfl⟩;exact⟨fun _ h=>h,h⟩)
end
end Go.Proofs.YtoloaehmppcjoaaGreat.V.M
