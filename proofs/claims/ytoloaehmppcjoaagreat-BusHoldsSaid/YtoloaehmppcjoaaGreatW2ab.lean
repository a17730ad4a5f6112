/-
  Parts of the proof. No condition.
-/
import Derived.Test.YtoloaehmppcjoaaGreatW2aa
set_option linter.unusedVariables false
set_option linter.unusedSimpArgs false
set_option maxRecDepth 8000
set_option maxHeartbeats 8000000
namespace Go.Proofs.YtoloaehmppcjoaaGreat.V
def cC:Kd→Bool
 |.read=>false
 |_=>true
theorem fX {k:Kd}(h:cC k=true):k = .pure∨k = .aw:=by cases k<;>simp_all [cC]
class bI (P:Program) (t:TypeId) (d:outParam TypeDesc):Prop where
 out:P.underlying t=some d
section
variable {P:Program}{ops:Array Oper}{Q:Exit→Act→World→Prop}{S:World→Prop}{n:Nat}
variable {i:Nat}{p:b6}{e:Env}{w:World}{k:Kd}{dst:Option Tmp}{ty:TypeId}{pos:String}{an:Array Edge}{g:Option (Nat×Bool)}
theorem GO.move [Fr](hk:cC k=true){x:Operand}{v:Value}(hw:aI ops e ⟨dst, .move x,ty,pos,an,g⟩=some true)(hx:ev e x=some v)(hd:fits n dst=true)
  (h:GX P ops Q S n p (e.put dst v) w):GO P ops Q S n k i ⟨dst, .move x,ty,pos,an,g⟩ p e w:=
 GO.val (fX hk) hw hd (fun a ha w=>by simp[execOp,bE ha hx]) h
theorem GO.assign [Fr](hk:cC k=true){x:Operand}{v:Value}(hw:aI ops e ⟨dst, .assign x,ty,pos,an,g⟩=some true)(hx:ev e x=some v)(hd:fits n dst=true)
  (h:GX P ops Q S n p (e.put dst v) w):GO P ops Q S n k i ⟨dst, .assign x,ty,pos,an,g⟩ p e w:=
 GO.val (fX hk) hw hd (fun a ha w=>by simp[execOp,bE ha hx]) h
theorem GO.JO [Fr](hk:cC k=true){c x y:Operand}{v:Value}(hw:aI ops e ⟨dst, .pick c x y,ty,pos,an,g⟩=some true)(hc:ev e c=some (.bool true))(hx:ev e x=some v)(hd:fits n dst=true)
  (h:GX P ops Q S n p (e.put dst v) w):GO P ops Q S n k i ⟨dst, .pick c x y,ty,pos,an,g⟩ p e w:=
 GO.val (fX hk) hw hd (fun a ha w=>by simp[execOp,bE ha hx,bE ha hc,asBool]) h
theorem GO.JN [Fr](hk:cC k=true){c x y:Operand}{v:Value}(hw:aI ops e ⟨dst, .pick c x y,ty,pos,an,g⟩=some true)(hc:ev e c=some (.bool false))(hy:ev e y=some v)(hd:fits n dst=true)
  (h:GX P ops Q S n p (e.put dst v) w):GO P ops Q S n k i ⟨dst, .pick c x y,ty,pos,an,g⟩ p e w:=
 GO.val (fX hk) hw hd (fun a ha w=>by simp[execOp,bE ha hy,bE ha hc,asBool]) h
theorem GO.nilCheck [Fr](hk:cC k=true){x:Operand}{ad:Addr}(hw:aI ops e ⟨dst, .nilCheck x,ty,pos,an,g⟩=some true)(hx:ev e x=some (.pointer (some ad)))(hd:fits n dst=true)
  (h:GX P ops Q S n p (e.put dst (.pointer (some ad))) w):GO P ops Q S n k i ⟨dst, .nilCheck x,ty,pos,an,g⟩ p e w:=
 GO.val (fX hk) hw hd (fun a ha w=>by simp[execOp,bE ha hx]) h
theorem GO.JA [Fr](hk:cC k=true){x:Operand}{f:FuncId}{fs cs:Array Value}(hw:aI ops e ⟨dst, .nilCheck x,ty,pos,an,g⟩=some true)(hx:ev e x=some (.func (.func f) fs cs))(hd:fits n dst=true)
  (h:GX P ops Q S n p (e.put dst (.func (.func f) fs cs)) w):GO P ops Q S n k i ⟨dst, .nilCheck x,ty,pos,an,g⟩ p e w:=
 GO.val (fX hk) hw hd (fun a ha w=>by simp[execOp,bE ha hx]) h
theorem ajc {s:TypeId}{f off size:Nat}{agg:Bool}(hf:aZ P s f off size agg)(hz:size≠0)(b o:Nat)(w:World) :
  (Instr.fieldAt s (.pointer (some ⟨b,o,none⟩)) f).run P w = .ok (.pointer (some ⟨b,o+off,none⟩)) w:=by
 have:=hf.out;unfold Hu at this;split at this
 ·rename_i fs h1
  split at this
  ·rename_i x h2
   split at this
   ·rename_i g z h3
    simp only[mU,oI] at this;obtain⟨rfl,rfl,rfl⟩:=this;have hs:=aC.sizeOf ⟨h3⟩ w;simp[Instr.fieldAt,run_underlying h1,h2,Instr.sureAddr,fieldPlace,hs,hz,iY]
   ·cases this
  ·cases this
 ·cases this
theorem GO.fieldAddr [Fr](hk:cC k=true){s:TypeId}{x:Operand}{f off size:Nat}{agg:Bool}[hf:aZ P s f off size agg]{b o:Nat}(hw:aI ops e ⟨dst, .fieldAddr s x f,ty,pos,an,g⟩=some true)
  (hx:ev e x=some (.pointer (some ⟨b,o,none⟩))) (hz:Nat.blt 0 size=true) (hd:fits n dst=true)
  (h:GX P ops Q S n p (e.put dst (.pointer (some ⟨b,o+off,none⟩))) w):GO P ops Q S n k i ⟨dst, .fieldAddr s x f,ty,pos,an,g⟩ p e w:=
 GO.val (fX hk) hw hd (fun a ha w=>by
  have lZ:size≠0:=by have:=hz;simp[Nat.blt] at this;omega
  simp[execOp,bE ha hx,ajc hf lZ]) h
theorem ajb {s:TypeId}{f off:Nat}(hf:aZ P s f off 1 false){cs:Array Value}{v:Value}(hv:cs[off]?=some v)(w:World) :
  (Instr.field s (.agg cs) f).run P w = .ok v w:=by
 have:=hf.out;unfold Hu at this;split at this
 ·rename_i fs h1
  split at this
  ·rename_i x h2
   split at this
   ·rename_i g z h3
    simp only[mU,oI] at this;obtain⟨rfl,rfl,rfl⟩:=this;have hs:=aC.isAgg ⟨h3⟩ w;simp[Instr.field,run_underlying h1,h2,asAgg,part,hs,hv]
   ·cases this
  ·cases this
 ·cases this
theorem ajd {s:TypeId}{f off size:Nat}(hf:aZ P s f off size true){cs:Array Value}(w:World) :
  (Instr.field s (.agg cs) f).run P w = .ok (.agg (cs.extract off (off+size))) w:=by
 have:=hf.out;unfold Hu at this;split at this
 ·rename_i fs h1
  split at this
  ·rename_i x h2
   split at this
   ·rename_i g z h3
    simp only[mU,oI] at this;obtain⟨rfl,rfl,rfl⟩:=this;have hs:=aC.isAgg ⟨h3⟩ w;have hz:=aC.sizeOf ⟨h3⟩ w;simp[Instr.field,run_underlying h1,h2,asAgg,part,hs,hz]
   ·cases this
  ·cases this
 ·cases this
theorem GO.Ht [Fr](hk:cC k=true){s:TypeId}{x:Operand}{f off:Nat}[hf:aZ P s f off 1 false]{l:List Value}{v:Value}(hw:aI ops e ⟨dst, .field s x f,ty,pos,an,g⟩=some true)
  (hx:ev e x=some (.agg l.toArray)) (hv:l[off]?=some v) (hd:fits n dst=true)
  (h:GX P ops Q S n p (e.put dst v) w):GO P ops Q S n k i ⟨dst, .field s x f,ty,pos,an,g⟩ p e w:=
 GO.val (fX hk) hw hd (fun a ha w=>by simp[execOp,bE ha hx,ajb hf (cs:=l.toArray) (v:=v) (by simpa using hv)]) h
theorem GO.Hv [Fr](hk:cC k=true){s:TypeId}{x:Operand}{f off size:Nat}[hf:aZ P s f off size true]{l l':List Value}(hw:aI ops e ⟨dst, .field s x f,ty,pos,an,g⟩=some true)
  (hx:ev e x=some (.agg l.toArray)) (hl:(l.drop off).take size=l') (hd:fits n dst=true)
  (h:GX P ops Q S n p (e.put dst (.agg l'.toArray)) w):GO P ops Q S n k i ⟨dst, .field s x f,ty,pos,an,g⟩ p e w:=
 GO.val (fX hk) hw hd (fun a ha w=>by
  have:l.toArray.extract off (off+size)=l'.toArray:=by
   subst hl;apply Array.toList_inj.1;simp[List.extract_eq_take_drop]
  simp[execOp,bE ha hx,ajd hf,this]) h
theorem GO.indexAddr [Fr](hk:cC k=true){t el:TypeId}{sz aT:Nat}[hf:cr P t el sz aT]{x y:Operand}{b o len cap:Nat}{ki:IntKind}{j:Int}(hw:aI ops e ⟨dst, .indexAddr t x y,ty,pos,an,g⟩=some true)
  (hx:ev e x=some (.slice (some ⟨b,o,none⟩) len cap)) (hy:ev e y=some (.int ki j)) (h0:0≤j) (h1:j<len) (hd:fits n dst=true)
  (h:GX P ops Q S n p (e.put dst (.pointer (some ⟨b,o+j.toNat*sz,none⟩))) w):GO P ops Q S n k i ⟨dst, .indexAddr t x y,ty,pos,an,g⟩ p e w:=
 GO.val (fX hk) hw hd (fun a ha w=>by simp[execOp,bE ha hx,bE ha hy,run_indexAt_slice w t _ len cap ki j hf.Pv,h0,h1,hf.XG,iY]) h
theorem GO.l4 [Fr](hk:cC k=true){t el:TypeId}{len sz:Nat}{ag:Bool}[hu:bI P t (.array len el)][hf:aC P el ag sz]{x y:Operand}{b o:Nat}{ki:IntKind}{j:Int}(hw:aI ops e ⟨dst, .indexAddr t x y,ty,pos,an,g⟩=some true)
  (hx:ev e x=some (.pointer (some ⟨b,o,none⟩))) (hy:ev e y=some (.int ki j)) (h0:0≤j) (h1:j<len) (hd:fits n dst=true)
  (h:GX P ops Q S n p (e.put dst (.pointer (some ⟨b,o+j.toNat*sz,none⟩))) w):GO P ops Q S n k i ⟨dst, .indexAddr t x y,ty,pos,an,g⟩ p e w:=
 GO.val (fX hk) hw hd (fun a ha w=>by
  simp[execOp,bE ha hx,bE ha hy,Instr.indexAt,run_underlying hu.out,asIntOf,Instr.sureAddr,h0,h1,hf.sizeOf,iY]) h
theorem GO.aeC [Fr](hk:cC k=true){t el:TypeId}{len:Nat}[hu:bI P t (.array len el)][hf:aC P el false 1]{x y:Operand}{l:List Value}{v:Value}{ki:IntKind}{j:Int}(hw:aI ops e ⟨dst, .index t x y,ty,pos,an,g⟩=some true)
  (hx:ev e x=some (.agg l.toArray)) (hy:ev e y=some (.int ki j)) (h0:0≤j) (h1:j<len) (hv:l[j.toNat]?=some v) (hd:fits n dst=true)
  (h:GX P ops Q S n p (e.put dst v) w):GO P ops Q S n k i ⟨dst, .index t x y,ty,pos,an,g⟩ p e w:=
 GO.val (fX hk) hw hd (fun a ha w=>by
  simp[execOp,bE ha hx,bE ha hy,Instr.index,run_underlying hu.out,asIntOf,h0,h1,hf.sizeOf,part,hf.isAgg,hv]) h
theorem GO.Am [Fr](hk:cC k=true){t:TypeId}[hu:bI P t .string]{x y:Operand}{s:ByteArray}{u:UInt8}{ki:IntKind}{j:Int}(hw:aI ops e ⟨dst, .index t x y,ty,pos,an,g⟩=some true)
  (hx:ev e x=some (.string s)) (hy:ev e y=some (.int ki j)) (h0:0≤j) (hv:s.data.toList[j.toNat]?=some u) (hd:fits n dst=true)
  (h:GX P ops Q S n p (e.put dst (.int .u8 u.toNat)) w):GO P ops Q S n k i ⟨dst, .index t x y,ty,pos,an,g⟩ p e w:=
 GO.val (fX hk) hw hd (fun a ha w=>by
  obtain⟨aN,uT⟩:=aV.1 hv;have IF:j.toNat<s.size:=by simpa using aN
  have hs:s[j.toNat]?=some u:=by
   rw[ByteArray.getElem?_lt' s _ IF];congr 1
  simp[execOp,bE ha hx,bE ha hy,Instr.index,run_underlying hu.out,asIntOf,h0,hs]) h
theorem ru (op:BinOp)(t:TypeId)(x y:Operand)(ki:IntKind)(a b:Int)(w:World):(eqGuard op t x y (.int ki a) (.int ki b)).run P w = .ok () w:=by
 cases op<;>rfl
theorem GO.bin [Fr](hk:cC k=true){op:BinOp}{t t2:TypeId}{x y:Operand}{u v r:Value}(hw:aI ops e ⟨dst, .binOp op t x y t2,ty,pos,an,g⟩=some true)(hx:ev e x=some u)(hy:ev e y=some v)(hd:fits n dst=true)
  (hg:∀w,(eqGuard op t x y u v).run P w = .ok () w) (hr:∀w,(binOp op t u v).run P w = .ok r w)
  (h:GX P ops Q S n p (e.put dst r) w):GO P ops Q S n k i ⟨dst, .binOp op t x y t2,ty,pos,an,g⟩ p e w:=
 GO.val (fX hk) hw hd (fun a ha w=>by simp[execOp,bE ha hx,bE ha hy,hg,hr]) h
section
variable {t t2:TypeId}{x y:Operand}{ki:IntKind}{a b c:Int}
theorem GO.add [Fr](hk:cC k=true)(hw:aI ops e ⟨dst, .binOp .add t x y t2,ty,pos,an,g⟩=some true)(hx:ev e x=some (.int ki a))(hy:ev e y=some (.int ki b))(hd:fits n dst=true)
  (hr:ki.wrap (a+b)=c) (h:GX P ops Q S n p (e.put dst (.int ki c)) w):GO P ops Q S n k i ⟨dst, .binOp .add t x y t2,ty,pos,an,g⟩ p e w:=
 GO.bin hk hw hx hy hd (ru _ _ _ _ _ _ _) (fun w=>by subst hr;simp[binOp,Op.intArith]) h
theorem GO.sub [Fr](hk:cC k=true)(hw:aI ops e ⟨dst, .binOp .sub t x y t2,ty,pos,an,g⟩=some true)(hx:ev e x=some (.int ki a))(hy:ev e y=some (.int ki b))(hd:fits n dst=true)
  (hr:ki.wrap (a - b)=c) (h:GX P ops Q S n p (e.put dst (.int ki c)) w):GO P ops Q S n k i ⟨dst, .binOp .sub t x y t2,ty,pos,an,g⟩ p e w:=
 GO.bin hk hw hx hy hd (ru _ _ _ _ _ _ _) (fun w=>by subst hr;simp[binOp,Op.intArith]) h
theorem GO.mul [Fr](hk:cC k=true)(hw:aI ops e ⟨dst, .binOp .mul t x y t2,ty,pos,an,g⟩=some true)(hx:ev e x=some (.int ki a))(hy:ev e y=some (.int ki b))(hd:fits n dst=true)
  (hr:ki.wrap (a*b)=c) (h:GX P ops Q S n p (e.put dst (.int ki c)) w):GO P ops Q S n k i ⟨dst, .binOp .mul t x y t2,ty,pos,an,g⟩ p e w:=
 GO.bin hk hw hx hy hd (ru _ _ _ _ _ _ _) (fun w=>by subst hr;simp[binOp,Op.intArith]) h
theorem GO.quo [Fr](hk:cC k=true)(hw:aI ops e ⟨dst, .binOp .quo t x y t2,ty,pos,an,g⟩=some true)(hx:ev e x=some (.int ki a))(hy:ev e y=some (.int ki b))(hd:fits n dst=true)
  (h0:b≠0) (hr:ki.wrap (a.tdiv b)=c) (h:GX P ops Q S n p (e.put dst (.int ki c)) w):GO P ops Q S n k i ⟨dst, .binOp .quo t x y t2,ty,pos,an,g⟩ p e w:=
 GO.bin hk hw hx hy hd (ru _ _ _ _ _ _ _) (fun w=>by subst hr;simp[binOp,Op.intDiv,h0]) h
theorem GO.rem [Fr](hk:cC k=true)(hw:aI ops e ⟨dst, .binOp .rem t x y t2,ty,pos,an,g⟩=some true)(hx:ev e x=some (.int ki a))(hy:ev e y=some (.int ki b))(hd:fits n dst=true)
  (h0:b≠0) (hr:a.tmod b=c) (h:GX P ops Q S n p (e.put dst (.int ki c)) w):GO P ops Q S n k i ⟨dst, .binOp .rem t x y t2,ty,pos,an,g⟩ p e w:=
 GO.bin hk hw hx hy hd (ru _ _ _ _ _ _ _) (fun w=>by subst hr;simp[binOp,Op.intDiv,h0]) h
theorem GO.bits [Fr](hk:cC k=true){op:BinOp}(hw:aI ops e ⟨dst, .binOp op t x y t2,ty,pos,an,g⟩=some true)(hx:ev e x=some (.int ki a))(hy:ev e y=some (.int ki b))(hd:fits n dst=true)
  (hr:∀w,(binOp op t (.int ki a) (.int ki b)).run P w = .ok (.int ki c) w) (h:GX P ops Q S n p (e.put dst (.int ki c)) w):GO P ops Q S n k i ⟨dst, .binOp op t x y t2,ty,pos,an,g⟩ p e w:=
 GO.bin hk hw hx hy hd (ru _ _ _ _ _ _ _) hr h
theorem GO.shl [Fr](hk:cC k=true){k2:IntKind}(hw:aI ops e ⟨dst, .binOp .shl t x y t2,ty,pos,an,g⟩=some true)(hx:ev e x=some (.int ki a))(hy:ev e y=some (.int k2 b))(hd:fits n dst=true)
  (h0:0≤b) (hr:ki.wrap (a*2^min b.toNat ki.bits)=c) (h:GX P ops Q S n p (e.put dst (.int ki c)) w):GO P ops Q S n k i ⟨dst, .binOp .shl t x y t2,ty,pos,an,g⟩ p e w:=
 GO.bin hk hw hx hy hd (fun w=>rfl) (fun w=>by subst hr;simp[binOp,shift_shl_any _ _ _ _ h0]) h
theorem GO.shr [Fr](hk:cC k=true){k2:IntKind}(hw:aI ops e ⟨dst, .binOp .shr t x y t2,ty,pos,an,g⟩=some true)(hx:ev e x=some (.int ki a))(hy:ev e y=some (.int k2 b))(hd:fits n dst=true)
  (h0:0≤b) (hr:a / 2^min b.toNat ki.bits=c) (h:GX P ops Q S n p (e.put dst (.int ki c)) w):GO P ops Q S n k i ⟨dst, .binOp .shr t x y t2,ty,pos,an,g⟩ p e w:=
 GO.bin hk hw hx hy hd (fun w=>rfl) (fun w=>by subst hr;simp[binOp,shift_shr_any _ _ _ _ h0]) h
theorem GO.lss [Fr](hk:cC k=true)(hw:aI ops e ⟨dst, .binOp .lss t x y t2,ty,pos,an,g⟩=some true)(hx:ev e x=some (.int ki a))(hy:ev e y=some (.int ki b))(hd:fits n dst=true)
  (h:GX P ops Q S n p (e.put dst (.bool (decide (a<b)))) w):GO P ops Q S n k i ⟨dst, .binOp .lss t x y t2,ty,pos,an,g⟩ p e w:=
 GO.bin hk hw hx hy hd (ru _ _ _ _ _ _ _) (fun w=>by simp[binOp,Op.intCmp]) h
theorem GO.leq [Fr](hk:cC k=true)(hw:aI ops e ⟨dst, .binOp .leq t x y t2,ty,pos,an,g⟩=some true)(hx:ev e x=some (.int ki a))(hy:ev e y=some (.int ki b))(hd:fits n dst=true)
  (h:GX P ops Q S n p (e.put dst (.bool (decide (a≤b)))) w):GO P ops Q S n k i ⟨dst, .binOp .leq t x y t2,ty,pos,an,g⟩ p e w:=
 GO.bin hk hw hx hy hd (ru _ _ _ _ _ _ _) (fun w=>by simp[binOp,Op.intCmp]) h
theorem GO.gtr [Fr](hk:cC k=true)(hw:aI ops e ⟨dst, .binOp .gtr t x y t2,ty,pos,an,g⟩=some true)(hx:ev e x=some (.int ki a))(hy:ev e y=some (.int ki b))(hd:fits n dst=true)
  (h:GX P ops Q S n p (e.put dst (.bool (decide (b<a)))) w):GO P ops Q S n k i ⟨dst, .binOp .gtr t x y t2,ty,pos,an,g⟩ p e w:=
 GO.bin hk hw hx hy hd (ru _ _ _ _ _ _ _) (fun w=>by simp[binOp,Op.intCmp]) h
theorem GO.geq [Fr](hk:cC k=true)(hw:aI ops e ⟨dst, .binOp .geq t x y t2,ty,pos,an,g⟩=some true)(hx:ev e x=some (.int ki a))(hy:ev e y=some (.int ki b))(hd:fits n dst=true)
  (h:GX P ops Q S n p (e.put dst (.bool (decide (b≤a)))) w):GO P ops Q S n k i ⟨dst, .binOp .geq t x y t2,ty,pos,an,g⟩ p e w:=
 GO.bin hk hw hx hy hd (ru _ _ _ _ _ _ _) (fun w=>by simp[binOp,Op.intCmp]) h
theorem GO.eql [Fr](hk:cC k=true)(hw:aI ops e ⟨dst, .binOp .eql t x y t2,ty,pos,an,g⟩=some true)(hx:ev e x=some (.int ki a))(hy:ev e y=some (.int ki b))(hd:fits n dst=true)
  (h:GX P ops Q S n p (e.put dst (.bool (decide (a=b)))) w):GO P ops Q S n k i ⟨dst, .binOp .eql t x y t2,ty,pos,an,g⟩ p e w:=
 GO.bin hk hw hx hy hd (ru _ _ _ _ _ _ _) (fun w=>by simp[binOp,Op.intCmp,Bool.beq_eq_decide_eq]) h
theorem GO.neq [Fr](hk:cC k=true)(hw:aI ops e ⟨dst, .binOp .neq t x y t2,ty,pos,an,g⟩=some true)(hx:ev e x=some (.int ki a))(hy:ev e y=some (.int ki b))(hd:fits n dst=true)
  (h:GX P ops Q S n p (e.put dst (.bool (decide (a≠b)))) w):GO P ops Q S n k i ⟨dst, .binOp .neq t x y t2,ty,pos,an,g⟩ p e w:=
 GO.bin hk hw hx hy hd (ru _ _ _ _ _ _ _) (fun w=>by
  have:(a != b)=decide (a≠b):=by by_cases fg:a=b<;>simp[fg]
  simp[binOp,Op.intCmp,this]) h
end
theorem GO.not [Fr](hk:cC k=true){t:TypeId}{x:Operand}{b:Bool}(hw:aI ops e ⟨dst, .unOp .not t x,ty,pos,an,g⟩=some true)(hx:ev e x=some (.bool b))(hd:fits n dst=true)
  (h:GX P ops Q S n p (e.put dst (.bool (!b))) w):GO P ops Q S n k i ⟨dst, .unOp .not t x,ty,pos,an,g⟩ p e w:=
 GO.val (fX hk) hw hd (fun a ha w=>by simp[execOp,bE ha hx,Op.unary]) h
theorem GO.neg [Fr](hk:cC k=true){t:TypeId}{x:Operand}{ki:IntKind}{a c:Int}(hw:aI ops e ⟨dst, .unOp .neg t x,ty,pos,an,g⟩=some true)(hx:ev e x=some (.int ki a))(hd:fits n dst=true)
  (hr:ki.wrap (0 - a)=c) (h:GX P ops Q S n p (e.put dst (.int ki c)) w):GO P ops Q S n k i ⟨dst, .unOp .neg t x,ty,pos,an,g⟩ p e w:=
 GO.val (fX hk) hw hd (fun a ha w=>by subst hr;simp[execOp,bE ha hx,Op.unary,Op.intArith]) h
theorem ai6 {src dT:TypeId}{sd:TypeDesc}{kd ks:IntKind}{a:Int}(hs:P.underlying src=some sd)(hu:P.underlying dT=some (.int kd))(w:World) :
  (convert src dT (.int ks a)).run P w = .ok (.int kd (kd.wrap a)) w:=by
 simp only[convert,Sem.run_bind,run_underlying hs,run_underlying hu,Result.andThen_ok];cases sd<;>simp[Conv.intToInt]
theorem GO.conv [Fr](hk:cC k=true){src dT:TypeId}{sd:TypeDesc}{kd ks:IntKind}[hs:bI P src sd][hu:bI P dT (.int kd)]{x:Operand}{a c:Int}(hw:aI ops e ⟨dst, .convert src dT x,ty,pos,an,g⟩=some true)(hx:ev e x=some (.int ks a))(hd:fits n dst=true)
  (hr:kd.wrap a=c) (h:GX P ops Q S n p (e.put dst (.int kd c)) w):GO P ops Q S n k i ⟨dst, .convert src dT x,ty,pos,an,g⟩ p e w:=
 GO.val (fX hk) hw hd (fun a ha w=>by subst hr;simp[execOp,bE ha hx,ai6 hs.out hu.out]) h
theorem GO.He [Fr](hk:cC k=true){src dT:TypeId}[hs:bI P src .string][hu:bI P dT .string]{x:Operand}{s:ByteArray}(hw:aI ops e ⟨dst, .convert src dT x,ty,pos,an,g⟩=some true)(hx:ev e x=some (.string s))(hd:fits n dst=true)
  (h:GX P ops Q S n p (e.put dst (.string s)) w):GO P ops Q S n k i ⟨dst, .convert src dT x,ty,pos,an,g⟩ p e w:=
 GO.val (fX hk) hw hd (fun a ha w=>by simp[execOp,bE ha hx,convert,run_underlying hs.out,run_underlying hu.out]) h
theorem Ps (a b:ByteArray):a.toList=b.toList↔a=b:=by
 simp only[ByteArray.toList_eq];constructor
 ·intro h;cases a;cases b;simp_all
 ·rintro rfl;rfl
theorem GO.alj [Fr](hk:cC k=true){t t2:TypeId}{x y:Operand}{a b:ByteArray}(hw:aI ops e ⟨dst, .binOp .eql t x y t2,ty,pos,an,g⟩=some true)(hx:ev e x=some (.string a))(hy:ev e y=some (.string b))(hd:fits n dst=true)
  (h:GX P ops Q S n p (e.put dst (.bool (decide (a=b)))) w):GO P ops Q S n k i ⟨dst, .binOp .eql t x y t2,ty,pos,an,g⟩ p e w:=
 GO.bin hk hw hx hy hd (fun w=>rfl) (fun w=>by
  have:(a.toList == b.toList)=decide (a=b):=by
   rw[Bool.beq_eq_decide_eq];simp only[Ps]
  simp[binOp,Op.stringOp,this]) h
theorem GO.alm [Fr](hk:cC k=true){t t2:TypeId}{x y:Operand}{a b:ByteArray}(hw:aI ops e ⟨dst, .binOp .neq t x y t2,ty,pos,an,g⟩=some true)(hx:ev e x=some (.string a))(hy:ev e y=some (.string b))(hd:fits n dst=true)
  (h:GX P ops Q S n p (e.put dst (.bool (decide (a≠b)))) w):GO P ops Q S n k i ⟨dst, .binOp .neq t x y t2,ty,pos,an,g⟩ p e w:=
 GO.bin hk hw hx hy hd (fun w=>rfl) (fun w=>by
  have:(!(a.toList == b.toList))=decide (a≠b):=by
   rw[Bool.beq_eq_decide_eq,←decide_not];simp only[Ps,ne_eq]
  simp[binOp,Op.stringOp,this]) h
theorem GO.ali [Fr](hk:cC k=true){t t2:TypeId}{x y:Operand}{a b:ByteArray}(hw:aI ops e ⟨dst, .binOp .add t x y t2,ty,pos,an,g⟩=some true)(hx:ev e x=some (.string a))(hy:ev e y=some (.string b))(hd:fits n dst=true)
  (hl:a.size+b.size≤9223372036854775807) (h:GX P ops Q S n p (e.put dst (.string (a++b))) w):GO P ops Q S n k i ⟨dst, .binOp .add t x y t2,ty,pos,an,g⟩ p e w:=
 GO.bin hk hw hx hy hd (fun w=>rfl) (fun w=>by
  have:¬(IntKind.i64.max<((a.size+b.size:Nat):Int)):=by simp[IntKind.max,IntKind.bits,IntKind.signed];omega
  simp only[binOp,Op.stringOp,gt_iff_lt,this,if_false];rfl) h
theorem GO.GU [Fr](hk:cC k=true){t t2:TypeId}[hu:bI P t .bool]{x y:Operand}{a b:Bool}(hw:aI ops e ⟨dst, .binOp .eql t x y t2,ty,pos,an,g⟩=some true)(hx:ev e x=some (.bool a))(hy:ev e y=some (.bool b))(hd:fits n dst=true)
  (h:GX P ops Q S n p (e.put dst (.bool (a == b))) w):GO P ops Q S n k i ⟨dst, .binOp .eql t x y t2,ty,pos,an,g⟩ p e w:=
 GO.bin hk hw hx hy hd (fun w=>rfl) (fun w=>run_eql_bool w t a b hu.out) h
theorem GO.GV [Fr](hk:cC k=true){t t2:TypeId}[hu:bI P t .bool]{x y:Operand}{a b:Bool}(hw:aI ops e ⟨dst, .binOp .neq t x y t2,ty,pos,an,g⟩=some true)(hx:ev e x=some (.bool a))(hy:ev e y=some (.bool b))(hd:fits n dst=true)
  (h:GX P ops Q S n p (e.put dst (.bool (!(a == b)))) w):GO P ops Q S n k i ⟨dst, .binOp .neq t x y t2,ty,pos,an,g⟩ p e w:=
 GO.bin hk hw hx hy hd (fun w=>rfl) (fun w=>run_neq_bool w t a b hu.out) h
theorem Yo {t el:TypeId}(h:P.underlying t=some (.pointer el)):P.underlying t=some (.pointer (P.pointee t)):=by
 have:P.pointee t=el:=by simp[Program.pointee,h]
 rw[this];exact h
theorem GO.JR [Fr](hk:cC k=true){t t2 el:TypeId}[hu:bI P t (.pointer el)]{x y:Operand}{a:Option Addr}(hw:aI ops e ⟨dst, .binOp .eql t x y t2,ty,pos,an,g⟩=some true)(hx:ev e x=some (.pointer a))(hy:ev e y=some (.pointer none))(hd:fits n dst=true)
  (h:GX P ops Q S n p (e.put dst (.bool a.isNone)) w):GO P ops Q S n k i ⟨dst, .binOp .eql t x y t2,ty,pos,an,g⟩ p e w:=
 GO.bin hk hw hx hy hd (fun w=>rfl) (fun w=>by
  have:=run_eql_pointer_nil (P:=P) (w:=w) t a (Yo hu.out);simpa using this) h
theorem GO.JS [Fr](hk:cC k=true){t t2 el:TypeId}[hu:bI P t (.pointer el)]{x y:Operand}{a:Option Addr}(hw:aI ops e ⟨dst, .binOp .neq t x y t2,ty,pos,an,g⟩=some true)(hx:ev e x=some (.pointer a))(hy:ev e y=some (.pointer none))(hd:fits n dst=true)
  (h:GX P ops Q S n p (e.put dst (.bool a.isSome)) w):GO P ops Q S n k i ⟨dst, .binOp .neq t x y t2,ty,pos,an,g⟩ p e w:=
 GO.bin hk hw hx hy hd (fun w=>rfl) (fun w=>by
  have:=run_neq_pointer_nil (P:=P) (w:=w) t a (Yo hu.out);cases a<;>simpa using this) h
theorem GO.extract [Fr](hk:cC k=true){x:Operand}{ix:Nat}{l:List Value}{v:Value}(hw:aI ops e ⟨dst, .extract x ix,ty,pos,an,g⟩=some true)(hx:ev e x=some (.tuple l.toArray))(hv:l[ix]?=some v)(hd:fits n dst=true)
  (h:GX P ops Q S n p (e.put dst v) w):GO P ops Q S n k i ⟨dst, .extract x ix,ty,pos,an,g⟩ p e w:=
 GO.val (fX hk) hw hd (fun a ha w=>by simp[execOp,bE ha hx,Instr.extract,hv]) h
theorem GO.makeFunc [Fr](hk:cC k=true){fn:Fn}{first captured:Array Operand}{fs cs:List Value}(hw:aI ops e ⟨dst, .makeFunc fn first captured,ty,pos,an,g⟩=some true)(hx:kO e first.toList=some fs)(hy:kO e captured.toList=some cs)(hd:fits n dst=true)
  (h:GX P ops Q S n p (e.put dst (.func fn fs.toArray cs.toArray)) w):GO P ops Q S n k i ⟨dst, .makeFunc fn first captured,ty,pos,an,g⟩ p e w:=
 GO.val (fX hk) hw hd (fun a ha w=>by simp[execOp,Hs ha hx,Hs ha hy,Instr.makeFunc]) h
theorem GO.Jo [Fr](hk:cC k=true){x:Operand}{t el:TypeId}{ad:Option Addr}{len cap:Nat}[hu:bI P t (.slice el)](hw:aI ops e ⟨dst, .call ⟨.builtin .len,#[x],#[t]⟩,ty,pos,an,g⟩=some true)(hx:ev e x=some (.slice ad len cap))(hd:fits n dst=true)
  (h:GX P ops Q S n p (e.put dst (.int .i64 len)) w):GO P ops Q S n k i ⟨dst, .call ⟨.builtin .len,#[x],#[t]⟩,ty,pos,an,g⟩ p e w:=
 GO.val (fX hk) hw hd (fun a ha w=>by simp[execOp,resolve,invoke,builtin,Builtin.len_,run_underlying hu.out,bE ha hx,goInt]) h
theorem GO.agq [Fr](hk:cC k=true){x:Operand}{t:TypeId}{s:ByteArray}[hu:bI P t .string](hw:aI ops e ⟨dst, .call ⟨.builtin .len,#[x],#[t]⟩,ty,pos,an,g⟩=some true)(hx:ev e x=some (.string s))(hd:fits n dst=true)
  (h:GX P ops Q S n p (e.put dst (.int .i64 s.size)) w):GO P ops Q S n k i ⟨dst, .call ⟨.builtin .len,#[x],#[t]⟩,ty,pos,an,g⟩ p e w:=
 GO.val (fX hk) hw hd (fun a ha w=>by simp[execOp,resolve,invoke,builtin,Builtin.len_,run_underlying hu.out,bE ha hx,goInt]) h
theorem GO.min2 [Fr](hk:cC k=true){x y:Operand}{ts:Array TypeId}{ki:IntKind}{a b c:Int}(hw:aI ops e ⟨dst, .call ⟨.builtin .min,#[x,y],ts⟩,ty,pos,an,g⟩=some true)(hx:ev e x=some (.int ki a))(hy:ev e y=some (.int ki b))(hd:fits n dst=true)
  (hr:(if b<a then b else a)=c) (h:GX P ops Q S n p (e.put dst (.int ki c)) w):GO P ops Q S n k i ⟨dst, .call ⟨.builtin .min,#[x,y],ts⟩,ty,pos,an,g⟩ p e w:=
 GO.val (fX hk) hw hd (fun a ha w=>by subst hr;simp[execOp,resolve,invoke,builtin,bE ha hx,bE ha hy,run_min_int2]) h
theorem GO.max2 [Fr](hk:cC k=true){x y:Operand}{ts:Array TypeId}{ki:IntKind}{a b c:Int}(hw:aI ops e ⟨dst, .call ⟨.builtin .max,#[x,y],ts⟩,ty,pos,an,g⟩=some true)(hx:ev e x=some (.int ki a))(hy:ev e y=some (.int ki b))(hd:fits n dst=true)
  (hr:(if b > a then b else a)=c) (h:GX P ops Q S n p (e.put dst (.int ki c)) w):GO P ops Q S n k i ⟨dst, .call ⟨.builtin .max,#[x,y],ts⟩,ty,pos,an,g⟩ p e w:=
 GO.val (fX hk) hw hd (fun a ha w=>by subst hr;simp[execOp,resolve,invoke,builtin,bE ha hx,bE ha hy,run_max_int2]) h
end
def bN (w:World):Option Addr→List Value→Prop
 |none,cs=>cs=[]
 |some ⟨b,o,none⟩,cs=>At w b o cs
 |some _,cs=>cs=[]
theorem bN.empty (w:World)(a:Option Addr):bN w a []:=by
 match a with
 |none=>rfl
 |some ⟨b,o,none⟩=>exact At.nil _ _ _
 |some ⟨_,_,some _⟩=>rfl
theorem bN.mod {S:Nat→Prop}{w w':World}{a:Option Addr}{cs:List Value}(h:bN w a cs)(hm:Mod S w w')(hn:∀x,a=some x→¬S x.block):bN w' a cs:=by
 match a,h,hn with
 |none,h,_=>exact h
 |some ⟨b,o,none⟩,h,hn=>exact At.mod h hm (hn _ rfl)
 |some ⟨_,_,some _⟩,h,_=>exact h
theorem bN.ext {w w':World}{a:Option Addr}{cs:List Value}(h:bN w a cs)(hm:Ext w w'):bN w' a cs:=h.mod hm fun _ _ h=>h
theorem bN.nil (w:World):bN w none []:=rfl
theorem bN.XO {w:World}{a:Option Addr}{c:Value}{cs:List Value}(h:bN w a (c::cs)):∃b o,a=some ⟨b,o,none⟩∧At w b o (c::cs):=by
 match a,h with
 |some ⟨b,o,none⟩,h=>exact⟨b,o,rfl,h⟩
theorem bN.sC {w:World}{a:Option Addr}{cs:List Value}(h:bN w a cs)(hl:0<cs.length):∃b o,a=some ⟨b,o,none⟩∧At w b o cs:=by
 cases cs with
 |nil=>simp at hl
 |cons c cs=>exact h.XO
def K0 (b:UInt8):Value := .int .u8 b.toNat
def zk (l:List UInt8):List Value:=l.map K0
def str (l:List UInt8):Value := .string ⟨l.toArray⟩
@[simp] theorem am7 (l:List UInt8):(zk l).length=l.length:=by simp[zk]
def aH (w:World)(el:TypeId)(sz:Nat)(ob:Option Nat)(a:Option Addr)(len cap:Nat)(cs:List Value):Prop:=
 cs.length=len*sz ∧
 ((ob=none∧cap=len∧bN w a cs∧(a=none→len=0)) ∨
  (∃b,ob=some b∧a=some ⟨b,0,none⟩∧w.ownsRow 0 el sz (.slice a len cap) len cs))
theorem aH.bL {w:World}{el sz:Nat}{ob:Option Nat}{a:Option Addr}{len cap:Nat}{cs:List Value}(h:aH w el sz ob a len cap cs):bN w a cs:=by
 obtain⟨_,⟨_,_,h,_⟩|⟨b,_,rfl,hl,h|⟨g,c,cur,h,_,hg,_,_,_,ht⟩⟩⟩:=h
 ·exact h
 ·cases h.1
 ·cases h;intro i v hv;rw[cell_of_row w _ _ cur el _ hg];rw[←ht,vy] at hv;split at hv
  ·simpa using hv
  ·cases hv
theorem aH.length {w:World}{el sz:Nat}{ob:Option Nat}{a:Option Addr}{len cap:Nat}{cs:List Value}(h:aH w el sz ob a len cap cs):cs.length=len*sz:=h.1
theorem aH.nil (w:World)(el sz:Nat):aH w el sz none none 0 0 []:=⟨by simp, .inl ⟨rfl,rfl,rfl,fun _=>rfl⟩⟩
theorem aH.full {w:World}{el sz:Nat}{a:Option Addr}{len:Nat}{cs:List Value}(hl:cs.length=len*sz)(h:bN w a cs)(h0:a=none→len=0):aH w el sz none a len len cs:=⟨hl, .inl ⟨rfl,rfl,h,h0⟩⟩
theorem aH.block {w:World}{el sz:Nat}{b:Nat}{a:Option Addr}{len cap:Nat}{cs:List Value}(h:aH w el sz (some b) a len cap cs):a=some ⟨b,0,none⟩∧b<w.heap.size:=by
 obtain⟨_,⟨h,_⟩|⟨b',hb,rfl,h⟩⟩:=h
 ·cases h
 ·cases hb;exact⟨rfl,(h.lt b rfl).2⟩
theorem aH.mod {S:Nat→Prop}{w w':World}{el sz:Nat}{ob:Option Nat}{a:Option Addr}{len cap:Nat}{cs:List Value}(h:aH w el sz ob a len cap cs)(hm:Mod S w w')(hn:∀x,a=some x→¬S x.block):aH w' el sz ob a len cap cs:=by
 obtain⟨hl,⟨h1,h2,h3,h4⟩|⟨b,h1,rfl,h2,h|⟨g,c,cur,h,h0,hg,rest⟩⟩⟩:=h
 ·exact⟨hl, .inl ⟨h1,h2,h3.mod hm hn,h4⟩⟩
 ·cases h.1
 ·cases h;exact⟨hl, .inr ⟨_,h1,rfl,h2, .inr ⟨_,_,cur,rfl,h0,hm.row hg (hn _ rfl),rest⟩⟩⟩
theorem aH.ext {w w':World}{el sz:Nat}{ob:Option Nat}{a:Option Addr}{len cap:Nat}{cs:List Value}(h:aH w el sz ob a len cap cs)(hm:Ext w w'):aH w' el sz ob a len cap cs:=h.mod hm fun _ _ h=>h
theorem aH.new {w:World}{el sz b len cap:Nat}{cs:List Value}(h:w.ownsRow 0 el sz (.slice (some ⟨b,0,none⟩) len cap) len cs):aH w el sz (some b) (some ⟨b,0,none⟩) len cap cs:=⟨h.1, .inr ⟨b,rfl,rfl,h⟩⟩
def fi (a:Option Addr)(l m sz:Nat):Option Addr:=if m=l then a else a.map (·.add (l*sz))
theorem bN.sliced {w:World}{a:Option Addr}{cs:List Value}(h:bN w a cs)(l m sz k:Nat)(hm:m=l→k=0):bN w (fi a l m sz) ((cs.drop (l*sz)).take (k*sz)):=by
 unfold fi
 by_cases BS:m=l
 ·have:=hm BS;subst this;simp only[BS,if_true,vB,List.take_zero];exact bN.empty _ _
 ·simp only[BS,if_false]
  match a,h with
  |none,h=>subst h;simp[bN]
  |some ⟨b,o,none⟩,h=>
   simp only[jV,iY];exact At.take h _ _
  |some ⟨b,o,some s⟩,h=>subst h;rw[List.drop_nil,List.take_nil];exact bN.empty _ _
section
variable {P:Program}{ops:Array Oper}{Q:Exit→Act→World→Prop}{S:World→Prop}{n:Nat}
variable {i:Nat}{p:b6}{e:Env}{w:World}{k:Kd}{dst:Option Tmp}{ty:TypeId}{pos:String}{an:Array Edge}{g:Option (Nat×Bool)}
theorem Xg {t:TypeId}(hf:aC P t false 1){b o:Nat}{v:Value}(h:w.cell? ⟨b,o,none⟩=some v):(Instr.loadAt t (.pointer (some ⟨b,o,none⟩))).run P w = .ok v w:=by
 simp[Instr.loadAt,Instr.sureAddr,loadVar,hf.isAgg,h]
theorem O0 {t:TypeId}{sz:Nat}(hf:aC P t true sz){b o:Nat}{l:List Value}(h:At w b o l)(hl:l.length=sz):(Instr.loadAt t (.pointer (some ⟨b,o,none⟩))).run P w = .ok (.agg l.toArray) w:=by
 have:=run_loadCells_list (P:=P) w ⟨b,o,none⟩ l (fun j v hv=>by rw[iY];exact h j v hv);subst hl;simp[Instr.loadAt,Instr.sureAddr,loadVar,hf.isAgg,hf.sizeOf,this]
theorem GO.lD [Fr]{t:TypeId}[hf:aC P t false 1]{x:Operand}{b o:Nat}{v:Value}{l:List Value}(hA:At w b o (v::l))(hw:aI ops e ⟨dst, .load t x,ty,pos,an,g⟩=some true)(hx:ev e x=some (.pointer (some ⟨b,o,none⟩)))(hd:fits n dst=true)
  (h:GX P ops Q S n p (e.put dst v) w):GO P ops Q S n .aw i ⟨dst, .load t x,ty,pos,an,g⟩ p e w:=
 GO.run (R:=fun u w'=>u=v∧w'=w) hw hd (fun a ha=>⟨_,v,w,by
  have hc:w.cell? ⟨b,o,none⟩=some v:=by simpa using hA 0 v rfl
  simp[execOp,bE ha hx,Xg hf hc], .inl rfl,rfl,rfl⟩) (by rintro _ _ ⟨rfl,rfl⟩;exact⟨fun _ h=>h,h⟩)
theorem GO.NY [Fr]{t:TypeId}{sz:Nat}[hf:aC P t true sz]{x:Operand}{b o:Nat}{l:List Value}(hA:At w b o l)(hl:l.length=sz)(hw:aI ops e ⟨dst, .load t x,ty,pos,an,g⟩=some true)(hx:ev e x=some (.pointer (some ⟨b,o,none⟩)))(hd:fits n dst=true)
  (h:GX P ops Q S n p (e.put dst (.agg l.toArray)) w):GO P ops Q S n .aw i ⟨dst, .load t x,ty,pos,an,g⟩ p e w:=
 GO.run (R:=fun u w'=>u = .agg l.toArray∧w'=w) hw hd (fun a ha=>⟨_, .agg l.toArray,w,by simp[execOp,bE ha hx,O0 hf hA hl], .inl rfl,rfl,rfl⟩) (by rintro _ _ ⟨rfl,rfl⟩;exact⟨fun _ h=>h,h⟩)
theorem GO.VH [Fr]{t:TypeId}[hf:aC P t false 1]{x:Operand}{b o:Nat}{v:Value}{l:List Value}(hS:S w)(hA:∀w',S w'→At w' b o (v::l))(hw:aI ops e ⟨dst, .load t x,ty,pos,an,g⟩=some true)(hx:ev e x=some (.pointer (some ⟨b,o,none⟩)))(hd:fits n dst=true)
  (h:GX P ops Q S n p (e.put dst v) w):GO P ops Q S n .read i ⟨dst, .load t x,ty,pos,an,g⟩ p e w:=
 GO.rd hS hw hd (fun a ha w' Ak=>by
  have hc:w'.cell? ⟨b,o,none⟩=some v:=by simpa using hA w' Ak 0 v rfl
  simp[execOp,bE ha hx,Xg hf hc]) h
theorem GO.VI [Fr]{t:TypeId}{sz:Nat}[hf:aC P t true sz]{x:Operand}{b o:Nat}{l:List Value}(hS:S w)(hA:∀w',S w'→At w' b o l)(hl:l.length=sz)(hw:aI ops e ⟨dst, .load t x,ty,pos,an,g⟩=some true)(hx:ev e x=some (.pointer (some ⟨b,o,none⟩)))(hd:fits n dst=true)
  (h:GX P ops Q S n p (e.put dst (.agg l.toArray)) w):GO P ops Q S n .read i ⟨dst, .load t x,ty,pos,an,g⟩ p e w:=
 GO.rd hS hw hd (fun a ha w' Ak=>by simp[execOp,bE ha hx,O0 hf (hA w' Ak) hl]) h
def Wr (w:World)(b o m:Nat):Prop:=∃c t fr,w.heap[b]?=some (.cells c t fr)∧o+m≤c.size∧∀j,j<m→(decide (fr.1≤o+j)&&decide (o+j<fr.2))=false
theorem cE.wr {b:Nat}{l:List Value}(h:cE w b l){o m:Nat}(hl:o+m≤l.length):Wr w b o m:=by
 obtain⟨t,ht⟩:=h;exact⟨_,t,_,ht,by simpa using hl,fun j _=>by simp⟩
theorem Wr.mod {T:Nat→Prop}{w w':World}{b o m:Nat}(h:Wr w b o m)(hm:Mod T w w')(hn:¬T b):Wr w' b o m:=by
 obtain⟨c,t,fr,hb,rest⟩:=h;exact⟨c,t,fr,hm.row hb hn,rest⟩
theorem Wr.put {w w':World}{b o m b' o':Nat}{vs:List Value}(h:Wr w b o m)(hp:mu w w' b' o' vs)(hr:Wr w b' o' vs.length):Wr w' b o m:=by
 obtain⟨c,t,fr,hb,h1,h2⟩:=h
 by_cases zJ:b=b'
 ·subst zJ;obtain⟨c',t',fr',uz,h3,_⟩:=hr;rw[hb] at uz;cases uz;refine⟨_,t,fr,hp.here _ _ _ hb,?_,h2⟩;simp only[xu,bH,dI,ml,Array.length_toList];omega
 ·exact⟨c,t,fr,(hp.other b zJ).trans hb,h1,h2⟩
theorem CJ (b:Nat):∀(vs:List Value) (o:Nat) (w:World) (c:Array Value) (t:TypeId) (fr:Nat×Nat),w.heap[b]?=some (.cells c t fr)→o+vs.length≤c.size→mu w (w.setCells b o vs) b o vs
 | [],o,w,c,t,fr,hb,ho=>⟨rfl,rfl,rfl,rfl,fun _ _=>rfl,fun c t fr h=>by simpa[World.setCells] using h⟩
 |v::r,o,w,c,t,fr,hb,ho=>by
  have mE:(w.setCell ⟨b,o,none⟩ v).heap[b]?=some (.cells (c.setIfInBounds o v) t fr):=by
   simp[World.setCell,Array.getElem?_modify,hb]
  have ih:=CJ b r (o+1) (w.setCell ⟨b,o,none⟩ v) _ t fr mE (by simp at ho ⊢;omega);refine⟨ih.os,ih.tape,ih.output,ih.size.trans (by simp),fun k hk=>(ih.other k hk).trans (by simp only[World.setCell,Array.getElem?_modify];rw[if_neg (fun e=>hk e.symm)]),fun c' t' fr' h=>?_⟩;rw[hb] at h;cases h;have h1:=ih.here _ _ _ mE;rw[World.setCells,h1];congr 2;apply congrArg;have:=list_seg_step c.toList o v r (by simp at ho ⊢;omega);simp only[Array.toList_setIfInBounds];rw[ek];exact this
theorem Xk {t:TypeId}{agg:Bool}{sz:Nat}(hf:aC P t agg sz){b o:Nat}{v:Value}{vs:List Value}(hv:v.cells.toList=vs)(hl:vs.length=sz)(h1:∀u∈vs,u.oneCell'=true)(hW:Wr w b o sz) :
  (Instr.storeAt t (.pointer (some ⟨b,o,none⟩)) v).run P w = .ok () (w.setCells b o vs)∧mu w (w.setCells b o vs) b o vs:=by
 obtain⟨c,et,fr,hb,ho,hz⟩:=hW;subst hl;have hs:v.cells.size=vs.length:=by rw[←hv];simp
 have h2:=run_storeCells_cells (P:=P) b o vs 0 w (fun j hj=>by
   rw[cell_of_row w b _ c et fr hb];rw[Array.getElem?_eq_getElem ah];rfl)
  (fun j hj=>by
    have:=hz j hj;simp only[World.frozen?,hb,qy];exact this) h1
 refine⟨?_,CJ b vs o w c et fr hb ho⟩;simp only[qy] at h2;simp[Instr.storeAt,Instr.sureAddr,storeVar,hf.sizeOf,hs,hv,h2]
theorem GO.store [Fr]{t:TypeId}{agg:Bool}{sz:Nat}[hf:aC P t agg sz]{x y:Operand}{b o:Nat}{v:Value}{vs:List Value}(hW:Wr w b o sz)(hv:v.cells.toList=vs)(hl:vs.length=sz)(h1:∀u∈vs,u.oneCell'=true)
  (hw:aI ops e ⟨none, .store t x y,ty,pos,an,g⟩=some true) (hx:ev e x=some (.pointer (some ⟨b,o,none⟩))) (hy:ev e y=some v)
  (h:∀w',mu w w' b o vs→(gS ops i=false→S w→S w')∧GX P ops Q S n p e w'):GO P ops Q S n .aw i ⟨none, .store t x y,ty,pos,an,g⟩ p e w:=
 GO.run (R:=fun _ w'=>mu w w' b o vs) hw rfl (fun a ha=>⟨.skip,undef,_,by simp[execOp,bE ha hx,bE ha hy,(Xk (P:=P) hf hv hl h1 hW).1], .inr ⟨rfl,rfl⟩,(Xk (P:=P) hf hv hl h1 hW).2⟩) (fun _ w' h'=>h w' h')
theorem GO.box [Fr]{t:TypeId}{x:Operand}{v:Value}{l:List Value}(hv:v.cells.toList=l)(hw:aI ops e ⟨dst, .box t x,ty,pos,an,g⟩=some true)(hx:ev e x=some v)(hd:fits n dst=true)
  (h:∀b w',b=w.heap.size→cE w' b l→Ext w w'→(gS ops i=false→S w→S w')∧GX P ops Q S n p (e.put dst (.pointer (some ⟨b,0,none⟩))) w'):GO P ops Q S n .aw i ⟨dst, .box t x,ty,pos,an,g⟩ p e w:=
 GO.run (R:=fun u w'=>u = .pointer (some ⟨w.heap.size,0,none⟩)∧cE w' w.heap.size l∧Ext w w') hw hd
  (fun a ha=>⟨_,_,w.alloc (.cells v.cells t),by simp[execOp,bE ha hx,Instr.box,newVar,newRow], .inl rfl,rfl,by
    have:=cE.new w l t;rw[←hv] at this ⊢;simpa using this,Ext.alloc _ _⟩)
  (by rintro _ w' ⟨rfl,h1,h2⟩;exact h _ w' rfl h1 h2)
def xA (P:Program)(t:TypeId):Option (List Value):=
 match P.info? t with
 |some i=>i.zero.map (·.cells.toList)
 |none=>none
class ff (P:Program) (t:TypeId) (l:outParam (List Value)):Prop where
 out:xA P t=some l
theorem ff.zero {t:TypeId}{l:List Value}(h:ff P t l)(w:World):∃z,(zeroValue t).run P w = .ok z w∧z.cells.toList=l:=by
 have:=h.out;unfold xA at this;split at this
 ·rename_i i hi
  cases hz:i.zero with
  |none=>simp[hz] at this
  |some z=>
   simp[hz] at this;exact⟨z,by simp[zeroValue,typeInfo,hi,hz],by simpa using this⟩
 ·cases this
theorem GO.alloc [Fr]{t:TypeId}{l:List Value}[hz:ff P t l](hw:aI ops e ⟨dst, .alloc t,ty,pos,an,g⟩=some true)(hd:fits n dst=true)
  (h:∀b w',b=w.heap.size→cE w' b l→Ext w w'→(gS ops i=false→S w→S w')∧GX P ops Q S n p (e.put dst (.pointer (some ⟨b,0,none⟩))) w'):GO P ops Q S n .aw i ⟨dst, .alloc t,ty,pos,an,g⟩ p e w:=by
 obtain⟨z,sk,sq⟩:=hz.zero w;exact GO.run (R:=fun u w'=>u = .pointer (some ⟨w.heap.size,0,none⟩)∧cE w' w.heap.size l∧Ext w w') hw hd
  (fun a ha=>⟨_,_,w.alloc (.cells z.cells t),by simp[execOp,Instr.alloc,sk,newVar,newRow], .inl rfl,rfl,by
    have:=cE.new w l t;rw[←sq] at this ⊢;simpa using this,Ext.alloc _ _⟩)
  (by rintro _ w' ⟨rfl,h1,h2⟩;exact h _ w' rfl h1 h2)
def tj (place:Nat→Option (Nat×Nat)):List Value→List (Nat×List Value)→Option (List Value)
 |cells,[]=>some cells
 |cells,(i,l)::rest=>match place i with
  |none=>none
  |some (off,size)=>match Nat.beq l.length size,Nat.ble (off+size) cells.length with
   |true,true=>tj place (cells.take off++l++cells.drop (off+size)) rest
   |_,_=>none
theorem abM (l:List Value):∀(k off:Nat) (cs:Array Value),off+k+l.length≤cs.size →
  ((l.zipIdx k).foldl (fun(cs:Array Value) (x:Value×Nat)=>cs.setIfInBounds (off+x.2) x.1) cs).toList=cs.toList.take (off+k)++l++cs.toList.drop (off+k+l.length):=by
 induction l with
 |nil=>intro k off cs h;simp
 |cons v r ih=>
  intro k off cs h;simp only[List.zipIdx_cons,pL];rw[ih (k+1) off _ (by simp at h ⊢;omega)];have:=list_seg_step cs.toList (off+k) v r (by simp at h ⊢;omega);simp only[Array.toList_setIfInBounds,←Nat.add_assoc];rw[ek,←Nat.add_assoc] at *;simpa[Nat.add_assoc] using this
theorem fill_eq (place:Nat→Option (Nat×Nat)):∀(parts:List (Nat×Value)) (pl:List (Nat×List Value)) (cells:Array Value) (out:List Value),
  parts.map (fun x=>(x.1,x.2.cells.toList))=pl→tj place cells.toList pl=some out→Instr.fill place cells parts=some out.toArray
 | [],pl,cells,out,hp,h=>by
   subst hp;simp[tj] at h;subst h;simp[Instr.fill]
 |(i,v)::rest,pl,cells,out,hp,h=>by
  subst hp;simp only[cJ,tj] at h;split at h
  ·cases h
  ·rename_i off size jy
   simp only[Instr.fill,jy];split at h
   ·rename_i h1 h2
    have gM:v.cells.size=size:=by have:=Nat.eq_of_beq_eq_true h1;simpa using this
    have ni:off+size≤cells.size:=by have:=vq h2;simpa using this
    subst gM;rw[if_neg (by simp;omega)];refine fill_eq place rest _ _ out rfl ?_;have amu:(Array.foldl (fun cs (x:Value×Nat)=>cs.setIfInBounds (off+x.2) x.1) cells v.cells.zipIdx).toList=cells.toList.take off++v.cells.toList++cells.toList.drop (off+v.cells.size):=by
     have:=abM v.cells.toList 0 off cells (by simpa using ni);rw[←Array.foldl_toList];simpa using this
    rw[←h];congr 1
   ·cases h
def KX (P:Program)(t:TypeId)(pl:List (Nat×List Value)):Option (List Value):=
 match P.underlying t,xA P t with
 |some (.struct fs),some z=>tj (fun i=>match fs[i]? with
   |some f=>match cD P f.type with
    |some (_,s)=>some (f.offset,s)
    |none=>none
   |none=>none) z pl
 |_,_=>none
theorem aib {fs:Array Field}(gA:∀f∈fs,(cD P f.type).isSome=true)(w:World) :
  (fs.mapM fun f=>do pure (f.offset,←sizeOf f.type):Sem (Array (Nat×Nat))).run P w = .ok (fs.map fun(f:Field)=>(f.offset,((cD P f.type).map (·.2)).getD 0)) w:=by
 have key:∀(l:List Field),(∀f∈l,(cD P f.type).isSome=true)→(l.mapM (fun f=>do pure (f.offset,←sizeOf f.type):Field→Sem (Nat×Nat))).run P w = .ok (l.map fun f=>(f.offset,((cD P f.type).map (·.2)).getD 0)) w:=by
  intro l
  induction l with
  |nil=>intro _;simp
  |cons f r ih=>
   intro h;obtain⟨⟨ag,s⟩,hs⟩:=Gq.1 (h f (by simp));have h1:=aC.sizeOf ⟨hs⟩ w;have h2:=ih (fun x hx=>h x (by simp[hx]));simp only[List.mapM_cons,Sem.run_bind,h1,Result.andThen_ok,Sem.run_pure,h2,hs,cJ,jV,oN]
 have:=key fs.toList (fun f hf=>gA f (by simpa using hf));rw[Array.mapM_eq_mapM_toList];simp only[Sem.run_map,this,Result.andThen_ok];congr 1;apply Array.toList_inj.1;simp
theorem GO.build [Fr]{k:Kd}(hk:cC k=true){t:TypeId}{parts:Array (Nat×Operand)}{vs:List (Nat×Value)}{pl:List (Nat×List Value)}{out:List Value}(Sc:((match P.underlying t with|some (.struct fs)=>fs.all fun f=>(cD P f.type).isSome|_=>false):Bool)=true)
  (hb:KX P t pl=some out) (hw:aI ops e ⟨dst, .build t parts,ty,pos,an,g⟩=some true)
  (hx:parts.toList.mapM (fun x=>(ev e x.2).map fun v=>(x.1,v))=some vs) (hp:vs.map (fun x=>(x.1,x.2.cells.toList))=pl) (hd:fits n dst=true)
  (h:GX P ops Q S n p (e.put dst (.agg out.toArray)) w):GO P ops Q S n k i ⟨dst, .build t parts,ty,pos,an,g⟩ p e w:=by
 refine GO.val (fX hk) hw hd (fun a ha w=>?_) h;have Aa:(parts.map fun(i,x)=>(i,a.eval x)).toList=vs:=by
  have key:∀(l:List (Nat×Operand)) (us:List (Nat×Value)),l.mapM (fun x=>(ev e x.2).map fun v=>(x.1,v))=some us→l.map (fun(i,x)=>(i,a.eval x))=us:=by
   intro l
   induction l with
   |nil=>intro us h;simp at h;simp[h]
   |cons x r ih=>
    intro us h;rw[List.mapM_cons] at h;cases hv:ev e x.2 with
    |none=>simp[hv] at h
    |some v=>
     cases hr:r.mapM (fun x=>(ev e x.2).map fun v=>(x.1,v)) with
     |none=>simp[hv,hr] at h
     |some vr=>
      simp[hv,hr] at h;subst h;simp[bE ha hv,←ih vr hr]
  simpa using key parts.toList vs hx
 unfold KX at hb;split at hb
 ·rename_i fs z hu hz
  obtain⟨z0,sk,sq⟩:=ff.zero (P:=P) ⟨hz⟩ w;have gA:∀f∈fs,(cD P f.type).isSome=true:=by
   simp only[hu,Array.all_eq_true_iff_forall_mem] at Sc;exact Sc
  have adY:(fun(i:Nat)=>match fs[i]? with
   |some (f:Field)=>match cD P f.type with
    |some (_,s)=>some (f.offset,s)
    |none=>none
   |none=>none)=((fs.map fun(f:Field)=>(f.offset,((cD P f.type).map (·.2)).getD 0))[·]?):=by
   funext i;cases hf:fs[i]? with
   |none=>simp[hf]
   |some f=>
    obtain⟨⟨ag,s⟩,hs⟩:=Gq.1 (gA f (Array.mem_of_getElem? hf));simp[hf,hs]
  rw[adY,←sq] at hb;have hf:=fill_eq _ vs pl z0.cells out hp hb;simp only[execOp,Sem.run_bind,Instr.build,sk,Result.andThen_ok,run_underlying hu,aib gA w,Aa,hf];rfl
 ·cases hb
end
end Go.Proofs.YtoloaehmppcjoaaGreat.V
