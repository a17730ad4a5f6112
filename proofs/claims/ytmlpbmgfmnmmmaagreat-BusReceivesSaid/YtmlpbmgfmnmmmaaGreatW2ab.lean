/-
  Parts of the proof. No condition.
-/
import Derived.Test.YtmlpbmgfmnmmmaaGreatW2aa
set_option linter.unusedVariables false
set_option linter.unusedSimpArgs false
set_option maxRecDepth 8000
set_option maxHeartbeats 8000000
namespace Go.Proofs.YtmlpbmgfmnmmmaaGreat.V
def cB:Kd→Bool
 |.read=>false
 |_=>true
theorem fN {k:Kd}(h:cB k=true):k = .pure∨k = .ax:=by cases k<;>simp_all [cB]
class bH (P:Program) (t:TypeId) (d:outParam TypeDesc):Prop where
 out:P.underlying t=some d
section
variable {P:Program}{ops:Array Oper}{Q:Exit→Act→World→Prop}{S:World→Prop}{n:Nat}
variable {i:Nat}{p:bZ}{e:Env}{w:World}{k:Kd}{dst:Option Tmp}{ty:TypeId}{pos:String}{an:Array Edge}{g:Option (Nat×Bool)}
theorem GO.move [Fr](hk:cB k=true){x:Operand}{v:Value}(hw:aH ops e ⟨dst, .move x,ty,pos,an,g⟩=some true)(hx:ev e x=some v)(hd:fits n dst=true)
  (h:GX P ops Q S n p (e.put dst v) w):GO P ops Q S n k i ⟨dst, .move x,ty,pos,an,g⟩ p e w:=
 GO.val (fN hk) hw hd (fun a ha w=>by simp[execOp,bC ha hx]) h
theorem GO.assign [Fr](hk:cB k=true){x:Operand}{v:Value}(hw:aH ops e ⟨dst, .assign x,ty,pos,an,g⟩=some true)(hx:ev e x=some v)(hd:fits n dst=true)
  (h:GX P ops Q S n p (e.put dst v) w):GO P ops Q S n k i ⟨dst, .assign x,ty,pos,an,g⟩ p e w:=
 GO.val (fN hk) hw hd (fun a ha w=>by simp[execOp,bC ha hx]) h
theorem GO.JE [Fr](hk:cB k=true){c x y:Operand}{v:Value}(hw:aH ops e ⟨dst, .pick c x y,ty,pos,an,g⟩=some true)(hc:ev e c=some (.bool true))(hx:ev e x=some v)(hd:fits n dst=true)
  (h:GX P ops Q S n p (e.put dst v) w):GO P ops Q S n k i ⟨dst, .pick c x y,ty,pos,an,g⟩ p e w:=
 GO.val (fN hk) hw hd (fun a ha w=>by simp[execOp,bC ha hx,bC ha hc,asBool]) h
theorem GO.JD [Fr](hk:cB k=true){c x y:Operand}{v:Value}(hw:aH ops e ⟨dst, .pick c x y,ty,pos,an,g⟩=some true)(hc:ev e c=some (.bool false))(hy:ev e y=some v)(hd:fits n dst=true)
  (h:GX P ops Q S n p (e.put dst v) w):GO P ops Q S n k i ⟨dst, .pick c x y,ty,pos,an,g⟩ p e w:=
 GO.val (fN hk) hw hd (fun a ha w=>by simp[execOp,bC ha hy,bC ha hc,asBool]) h
theorem GO.nilCheck [Fr](hk:cB k=true){x:Operand}{ad:Addr}(hw:aH ops e ⟨dst, .nilCheck x,ty,pos,an,g⟩=some true)(hx:ev e x=some (.pointer (some ad)))(hd:fits n dst=true)
  (h:GX P ops Q S n p (e.put dst (.pointer (some ad))) w):GO P ops Q S n k i ⟨dst, .nilCheck x,ty,pos,an,g⟩ p e w:=
 GO.val (fN hk) hw hd (fun a ha w=>by simp[execOp,bC ha hx]) h
theorem GO.Jq [Fr](hk:cB k=true){x:Operand}{f:FuncId}{fs cs:Array Value}(hw:aH ops e ⟨dst, .nilCheck x,ty,pos,an,g⟩=some true)(hx:ev e x=some (.func (.func f) fs cs))(hd:fits n dst=true)
  (h:GX P ops Q S n p (e.put dst (.func (.func f) fs cs)) w):GO P ops Q S n k i ⟨dst, .nilCheck x,ty,pos,an,g⟩ p e w:=
 GO.val (fN hk) hw hd (fun a ha w=>by simp[execOp,bC ha hx]) h
theorem ajh {s:TypeId}{f off size:Nat}{agg:Bool}(hf:aT P s f off size agg)(hz:size≠0)(b o:Nat)(w:World) :
  (Instr.fieldAt s (.pointer (some ⟨b,o,none⟩)) f).run P w = .ok (.pointer (some ⟨b,o+off,none⟩)) w:=by
 have:=hf.out;unfold Hs at this;split at this
 ·rename_i fs h1
  split at this
  ·rename_i x h2
   split at this
   ·rename_i g z h3
    simp only[mD,mB] at this;obtain⟨rfl,rfl,rfl⟩:=this;have hs:=aC.sizeOf ⟨h3⟩ w;simp[Instr.fieldAt,run_underlying h1,h2,Instr.sureAddr,fieldPlace,hs,hz,ir]
   ·cases this
  ·cases this
 ·cases this
theorem GO.fieldAddr [Fr](hk:cB k=true){s:TypeId}{x:Operand}{f off size:Nat}{agg:Bool}[hf:aT P s f off size agg]{b o:Nat}(hw:aH ops e ⟨dst, .fieldAddr s x f,ty,pos,an,g⟩=some true)
  (hx:ev e x=some (.pointer (some ⟨b,o,none⟩))) (hz:Nat.blt 0 size=true) (hd:fits n dst=true)
  (h:GX P ops Q S n p (e.put dst (.pointer (some ⟨b,o+off,none⟩))) w):GO P ops Q S n k i ⟨dst, .fieldAddr s x f,ty,pos,an,g⟩ p e w:=
 GO.val (fN hk) hw hd (fun a ha w=>by
  have lN:size≠0:=by have:=hz;simp[Nat.blt] at this;omega
  simp[execOp,bC ha hx,ajh hf lN]) h
theorem ajg {s:TypeId}{f off:Nat}(hf:aT P s f off 1 false){cs:Array Value}{v:Value}(hv:cs[off]?=some v)(w:World) :
  (Instr.field s (.agg cs) f).run P w = .ok v w:=by
 have:=hf.out;unfold Hs at this;split at this
 ·rename_i fs h1
  split at this
  ·rename_i x h2
   split at this
   ·rename_i g z h3
    simp only[mD,mB] at this;obtain⟨rfl,rfl,rfl⟩:=this;have hs:=aC.isAgg ⟨h3⟩ w;simp[Instr.field,run_underlying h1,h2,asAgg,part,hs,hv]
   ·cases this
  ·cases this
 ·cases this
theorem aji {s:TypeId}{f off size:Nat}(hf:aT P s f off size true){cs:Array Value}(w:World) :
  (Instr.field s (.agg cs) f).run P w = .ok (.agg (cs.extract off (off+size))) w:=by
 have:=hf.out;unfold Hs at this;split at this
 ·rename_i fs h1
  split at this
  ·rename_i x h2
   split at this
   ·rename_i g z h3
    simp only[mD,mB] at this;obtain⟨rfl,rfl,rfl⟩:=this;have hs:=aC.isAgg ⟨h3⟩ w;have hz:=aC.sizeOf ⟨h3⟩ w;simp[Instr.field,run_underlying h1,h2,asAgg,part,hs,hz]
   ·cases this
  ·cases this
 ·cases this
theorem GO.Hr [Fr](hk:cB k=true){s:TypeId}{x:Operand}{f off:Nat}[hf:aT P s f off 1 false]{l:List Value}{v:Value}(hw:aH ops e ⟨dst, .field s x f,ty,pos,an,g⟩=some true)
  (hx:ev e x=some (.agg l.toArray)) (hv:l[off]?=some v) (hd:fits n dst=true)
  (h:GX P ops Q S n p (e.put dst v) w):GO P ops Q S n k i ⟨dst, .field s x f,ty,pos,an,g⟩ p e w:=
 GO.val (fN hk) hw hd (fun a ha w=>by simp[execOp,bC ha hx,ajg hf (cs:=l.toArray) (v:=v) (by simpa using hv)]) h
theorem GO.Ht [Fr](hk:cB k=true){s:TypeId}{x:Operand}{f off size:Nat}[hf:aT P s f off size true]{l l':List Value}(hw:aH ops e ⟨dst, .field s x f,ty,pos,an,g⟩=some true)
  (hx:ev e x=some (.agg l.toArray)) (hl:(l.drop off).take size=l') (hd:fits n dst=true)
  (h:GX P ops Q S n p (e.put dst (.agg l'.toArray)) w):GO P ops Q S n k i ⟨dst, .field s x f,ty,pos,an,g⟩ p e w:=
 GO.val (fN hk) hw hd (fun a ha w=>by
  have:l.toArray.extract off (off+size)=l'.toArray:=by
   subst hl;apply Array.toList_inj.1;simp[List.extract_eq_take_drop]
  simp[execOp,bC ha hx,aji hf,this]) h
theorem GO.indexAddr [Fr](hk:cB k=true){t el:TypeId}{sz aS:Nat}[hf:cj P t el sz aS]{x y:Operand}{b o len cap:Nat}{ki:IntKind}{j:Int}(hw:aH ops e ⟨dst, .indexAddr t x y,ty,pos,an,g⟩=some true)
  (hx:ev e x=some (.slice (some ⟨b,o,none⟩) len cap)) (hy:ev e y=some (.int ki j)) (h0:0≤j) (h1:j<len) (hd:fits n dst=true)
  (h:GX P ops Q S n p (e.put dst (.pointer (some ⟨b,o+j.toNat*sz,none⟩))) w):GO P ops Q S n k i ⟨dst, .indexAddr t x y,ty,pos,an,g⟩ p e w:=
 GO.val (fN hk) hw hd (fun a ha w=>by simp[execOp,bC ha hx,bC ha hy,run_indexAt_slice w t _ len cap ki j hf.Pt,h0,h1,hf.XG,ir]) h
theorem GO.lO [Fr](hk:cB k=true){t el:TypeId}{len sz:Nat}{ag:Bool}[hu:bH P t (.array len el)][hf:aC P el ag sz]{x y:Operand}{b o:Nat}{ki:IntKind}{j:Int}(hw:aH ops e ⟨dst, .indexAddr t x y,ty,pos,an,g⟩=some true)
  (hx:ev e x=some (.pointer (some ⟨b,o,none⟩))) (hy:ev e y=some (.int ki j)) (h0:0≤j) (h1:j<len) (hd:fits n dst=true)
  (h:GX P ops Q S n p (e.put dst (.pointer (some ⟨b,o+j.toNat*sz,none⟩))) w):GO P ops Q S n k i ⟨dst, .indexAddr t x y,ty,pos,an,g⟩ p e w:=
 GO.val (fN hk) hw hd (fun a ha w=>by
  simp[execOp,bC ha hx,bC ha hy,Instr.indexAt,run_underlying hu.out,asIntOf,Instr.sureAddr,h0,h1,hf.sizeOf,ir]) h
theorem GO.aeu [Fr](hk:cB k=true){t el:TypeId}{len:Nat}[hu:bH P t (.array len el)][hf:aC P el false 1]{x y:Operand}{l:List Value}{v:Value}{ki:IntKind}{j:Int}(hw:aH ops e ⟨dst, .index t x y,ty,pos,an,g⟩=some true)
  (hx:ev e x=some (.agg l.toArray)) (hy:ev e y=some (.int ki j)) (h0:0≤j) (h1:j<len) (hv:l[j.toNat]?=some v) (hd:fits n dst=true)
  (h:GX P ops Q S n p (e.put dst v) w):GO P ops Q S n k i ⟨dst, .index t x y,ty,pos,an,g⟩ p e w:=
 GO.val (fN hk) hw hd (fun a ha w=>by
  simp[execOp,bC ha hx,bC ha hy,Instr.index,run_underlying hu.out,asIntOf,h0,h1,hf.sizeOf,part,hf.isAgg,hv]) h
theorem GO.Am [Fr](hk:cB k=true){t:TypeId}[hu:bH P t .string]{x y:Operand}{s:ByteArray}{u:UInt8}{ki:IntKind}{j:Int}(hw:aH ops e ⟨dst, .index t x y,ty,pos,an,g⟩=some true)
  (hx:ev e x=some (.string s)) (hy:ev e y=some (.int ki j)) (h0:0≤j) (hv:s.data.toList[j.toNat]?=some u) (hd:fits n dst=true)
  (h:GX P ops Q S n p (e.put dst (.int .u8 u.toNat)) w):GO P ops Q S n k i ⟨dst, .index t x y,ty,pos,an,g⟩ p e w:=
 GO.val (fN hk) hw hd (fun a ha w=>by
  obtain⟨aP,Aj⟩:=aV.1 hv;have S6:j.toNat<s.size:=by simpa using aP
  have hs:s[j.toNat]?=some u:=by
   rw[ByteArray.getElem?_lt' s _ S6];congr 1
  simp[execOp,bC ha hx,bC ha hy,Instr.index,run_underlying hu.out,asIntOf,h0,hs]) h
theorem qZ (op:BinOp)(t:TypeId)(x y:Operand)(ki:IntKind)(a b:Int)(w:World):(eqGuard op t x y (.int ki a) (.int ki b)).run P w = .ok () w:=by
 cases op<;>rfl
theorem GO.bin [Fr](hk:cB k=true){op:BinOp}{t t2:TypeId}{x y:Operand}{u v r:Value}(hw:aH ops e ⟨dst, .binOp op t x y t2,ty,pos,an,g⟩=some true)(hx:ev e x=some u)(hy:ev e y=some v)(hd:fits n dst=true)
  (hg:∀w,(eqGuard op t x y u v).run P w = .ok () w) (hr:∀w,(binOp op t u v).run P w = .ok r w)
  (h:GX P ops Q S n p (e.put dst r) w):GO P ops Q S n k i ⟨dst, .binOp op t x y t2,ty,pos,an,g⟩ p e w:=
 GO.val (fN hk) hw hd (fun a ha w=>by simp[execOp,bC ha hx,bC ha hy,hg,hr]) h
section
variable {t t2:TypeId}{x y:Operand}{ki:IntKind}{a b c:Int}
theorem GO.add [Fr](hk:cB k=true)(hw:aH ops e ⟨dst, .binOp .add t x y t2,ty,pos,an,g⟩=some true)(hx:ev e x=some (.int ki a))(hy:ev e y=some (.int ki b))(hd:fits n dst=true)
  (hr:ki.wrap (a+b)=c) (h:GX P ops Q S n p (e.put dst (.int ki c)) w):GO P ops Q S n k i ⟨dst, .binOp .add t x y t2,ty,pos,an,g⟩ p e w:=
 GO.bin hk hw hx hy hd (qZ _ _ _ _ _ _ _) (fun w=>by subst hr;simp[binOp,Op.intArith]) h
theorem GO.sub [Fr](hk:cB k=true)(hw:aH ops e ⟨dst, .binOp .sub t x y t2,ty,pos,an,g⟩=some true)(hx:ev e x=some (.int ki a))(hy:ev e y=some (.int ki b))(hd:fits n dst=true)
  (hr:ki.wrap (a - b)=c) (h:GX P ops Q S n p (e.put dst (.int ki c)) w):GO P ops Q S n k i ⟨dst, .binOp .sub t x y t2,ty,pos,an,g⟩ p e w:=
 GO.bin hk hw hx hy hd (qZ _ _ _ _ _ _ _) (fun w=>by subst hr;simp[binOp,Op.intArith]) h
theorem GO.mul [Fr](hk:cB k=true)(hw:aH ops e ⟨dst, .binOp .mul t x y t2,ty,pos,an,g⟩=some true)(hx:ev e x=some (.int ki a))(hy:ev e y=some (.int ki b))(hd:fits n dst=true)
  (hr:ki.wrap (a*b)=c) (h:GX P ops Q S n p (e.put dst (.int ki c)) w):GO P ops Q S n k i ⟨dst, .binOp .mul t x y t2,ty,pos,an,g⟩ p e w:=
 GO.bin hk hw hx hy hd (qZ _ _ _ _ _ _ _) (fun w=>by subst hr;simp[binOp,Op.intArith]) h
theorem GO.quo [Fr](hk:cB k=true)(hw:aH ops e ⟨dst, .binOp .quo t x y t2,ty,pos,an,g⟩=some true)(hx:ev e x=some (.int ki a))(hy:ev e y=some (.int ki b))(hd:fits n dst=true)
  (h0:b≠0) (hr:ki.wrap (a.tdiv b)=c) (h:GX P ops Q S n p (e.put dst (.int ki c)) w):GO P ops Q S n k i ⟨dst, .binOp .quo t x y t2,ty,pos,an,g⟩ p e w:=
 GO.bin hk hw hx hy hd (qZ _ _ _ _ _ _ _) (fun w=>by subst hr;simp[binOp,Op.intDiv,h0]) h
theorem GO.rem [Fr](hk:cB k=true)(hw:aH ops e ⟨dst, .binOp .rem t x y t2,ty,pos,an,g⟩=some true)(hx:ev e x=some (.int ki a))(hy:ev e y=some (.int ki b))(hd:fits n dst=true)
  (h0:b≠0) (hr:a.tmod b=c) (h:GX P ops Q S n p (e.put dst (.int ki c)) w):GO P ops Q S n k i ⟨dst, .binOp .rem t x y t2,ty,pos,an,g⟩ p e w:=
 GO.bin hk hw hx hy hd (qZ _ _ _ _ _ _ _) (fun w=>by subst hr;simp[binOp,Op.intDiv,h0]) h
theorem GO.bits [Fr](hk:cB k=true){op:BinOp}(hw:aH ops e ⟨dst, .binOp op t x y t2,ty,pos,an,g⟩=some true)(hx:ev e x=some (.int ki a))(hy:ev e y=some (.int ki b))(hd:fits n dst=true)
  (hr:∀w,(binOp op t (.int ki a) (.int ki b)).run P w = .ok (.int ki c) w) (h:GX P ops Q S n p (e.put dst (.int ki c)) w):GO P ops Q S n k i ⟨dst, .binOp op t x y t2,ty,pos,an,g⟩ p e w:=
 GO.bin hk hw hx hy hd (qZ _ _ _ _ _ _ _) hr h
theorem GO.shl [Fr](hk:cB k=true){k2:IntKind}(hw:aH ops e ⟨dst, .binOp .shl t x y t2,ty,pos,an,g⟩=some true)(hx:ev e x=some (.int ki a))(hy:ev e y=some (.int k2 b))(hd:fits n dst=true)
  (h0:0≤b) (hr:ki.wrap (a*2^min b.toNat ki.bits)=c) (h:GX P ops Q S n p (e.put dst (.int ki c)) w):GO P ops Q S n k i ⟨dst, .binOp .shl t x y t2,ty,pos,an,g⟩ p e w:=
 GO.bin hk hw hx hy hd (fun w=>rfl) (fun w=>by subst hr;simp[binOp,shift_shl_any _ _ _ _ h0]) h
theorem GO.shr [Fr](hk:cB k=true){k2:IntKind}(hw:aH ops e ⟨dst, .binOp .shr t x y t2,ty,pos,an,g⟩=some true)(hx:ev e x=some (.int ki a))(hy:ev e y=some (.int k2 b))(hd:fits n dst=true)
  (h0:0≤b) (hr:a / 2^min b.toNat ki.bits=c) (h:GX P ops Q S n p (e.put dst (.int ki c)) w):GO P ops Q S n k i ⟨dst, .binOp .shr t x y t2,ty,pos,an,g⟩ p e w:=
 GO.bin hk hw hx hy hd (fun w=>rfl) (fun w=>by subst hr;simp[binOp,shift_shr_any _ _ _ _ h0]) h
theorem GO.lss [Fr](hk:cB k=true)(hw:aH ops e ⟨dst, .binOp .lss t x y t2,ty,pos,an,g⟩=some true)(hx:ev e x=some (.int ki a))(hy:ev e y=some (.int ki b))(hd:fits n dst=true)
  (h:GX P ops Q S n p (e.put dst (.bool (decide (a<b)))) w):GO P ops Q S n k i ⟨dst, .binOp .lss t x y t2,ty,pos,an,g⟩ p e w:=
 GO.bin hk hw hx hy hd (qZ _ _ _ _ _ _ _) (fun w=>by simp[binOp,Op.intCmp]) h
theorem GO.leq [Fr](hk:cB k=true)(hw:aH ops e ⟨dst, .binOp .leq t x y t2,ty,pos,an,g⟩=some true)(hx:ev e x=some (.int ki a))(hy:ev e y=some (.int ki b))(hd:fits n dst=true)
  (h:GX P ops Q S n p (e.put dst (.bool (decide (a≤b)))) w):GO P ops Q S n k i ⟨dst, .binOp .leq t x y t2,ty,pos,an,g⟩ p e w:=
 GO.bin hk hw hx hy hd (qZ _ _ _ _ _ _ _) (fun w=>by simp[binOp,Op.intCmp]) h
theorem GO.gtr [Fr](hk:cB k=true)(hw:aH ops e ⟨dst, .binOp .gtr t x y t2,ty,pos,an,g⟩=some true)(hx:ev e x=some (.int ki a))(hy:ev e y=some (.int ki b))(hd:fits n dst=true)
  (h:GX P ops Q S n p (e.put dst (.bool (decide (b<a)))) w):GO P ops Q S n k i ⟨dst, .binOp .gtr t x y t2,ty,pos,an,g⟩ p e w:=
 GO.bin hk hw hx hy hd (qZ _ _ _ _ _ _ _) (fun w=>by simp[binOp,Op.intCmp]) h
theorem GO.geq [Fr](hk:cB k=true)(hw:aH ops e ⟨dst, .binOp .geq t x y t2,ty,pos,an,g⟩=some true)(hx:ev e x=some (.int ki a))(hy:ev e y=some (.int ki b))(hd:fits n dst=true)
  (h:GX P ops Q S n p (e.put dst (.bool (decide (b≤a)))) w):GO P ops Q S n k i ⟨dst, .binOp .geq t x y t2,ty,pos,an,g⟩ p e w:=
 GO.bin hk hw hx hy hd (qZ _ _ _ _ _ _ _) (fun w=>by simp[binOp,Op.intCmp]) h
theorem GO.eql [Fr](hk:cB k=true)(hw:aH ops e ⟨dst, .binOp .eql t x y t2,ty,pos,an,g⟩=some true)(hx:ev e x=some (.int ki a))(hy:ev e y=some (.int ki b))(hd:fits n dst=true)
  (h:GX P ops Q S n p (e.put dst (.bool (decide (a=b)))) w):GO P ops Q S n k i ⟨dst, .binOp .eql t x y t2,ty,pos,an,g⟩ p e w:=
 GO.bin hk hw hx hy hd (qZ _ _ _ _ _ _ _) (fun w=>by simp[binOp,Op.intCmp,Bool.beq_eq_decide_eq]) h
theorem GO.neq [Fr](hk:cB k=true)(hw:aH ops e ⟨dst, .binOp .neq t x y t2,ty,pos,an,g⟩=some true)(hx:ev e x=some (.int ki a))(hy:ev e y=some (.int ki b))(hd:fits n dst=true)
  (h:GX P ops Q S n p (e.put dst (.bool (decide (a≠b)))) w):GO P ops Q S n k i ⟨dst, .binOp .neq t x y t2,ty,pos,an,g⟩ p e w:=
 GO.bin hk hw hx hy hd (qZ _ _ _ _ _ _ _) (fun w=>by
  have:(a != b)=decide (a≠b):=by by_cases eR:a=b<;>simp[eR]
  simp[binOp,Op.intCmp,this]) h
end
theorem GO.not [Fr](hk:cB k=true){t:TypeId}{x:Operand}{b:Bool}(hw:aH ops e ⟨dst, .unOp .not t x,ty,pos,an,g⟩=some true)(hx:ev e x=some (.bool b))(hd:fits n dst=true)
  (h:GX P ops Q S n p (e.put dst (.bool (!b))) w):GO P ops Q S n k i ⟨dst, .unOp .not t x,ty,pos,an,g⟩ p e w:=
 GO.val (fN hk) hw hd (fun a ha w=>by simp[execOp,bC ha hx,Op.unary]) h
theorem GO.neg [Fr](hk:cB k=true){t:TypeId}{x:Operand}{ki:IntKind}{a c:Int}(hw:aH ops e ⟨dst, .unOp .neg t x,ty,pos,an,g⟩=some true)(hx:ev e x=some (.int ki a))(hd:fits n dst=true)
  (hr:ki.wrap (0 - a)=c) (h:GX P ops Q S n p (e.put dst (.int ki c)) w):GO P ops Q S n k i ⟨dst, .unOp .neg t x,ty,pos,an,g⟩ p e w:=
 GO.val (fN hk) hw hd (fun a ha w=>by subst hr;simp[execOp,bC ha hx,Op.unary,Op.intArith]) h
theorem ajb {src dT:TypeId}{sd:TypeDesc}{kd ks:IntKind}{a:Int}(hs:P.underlying src=some sd)(hu:P.underlying dT=some (.int kd))(w:World) :
  (convert src dT (.int ks a)).run P w = .ok (.int kd (kd.wrap a)) w:=by
 simp only[convert,Sem.run_bind,run_underlying hs,run_underlying hu,Result.andThen_ok];cases sd<;>simp[Conv.intToInt]
theorem GO.conv [Fr](hk:cB k=true){src dT:TypeId}{sd:TypeDesc}{kd ks:IntKind}[hs:bH P src sd][hu:bH P dT (.int kd)]{x:Operand}{a c:Int}(hw:aH ops e ⟨dst, .convert src dT x,ty,pos,an,g⟩=some true)(hx:ev e x=some (.int ks a))(hd:fits n dst=true)
  (hr:kd.wrap a=c) (h:GX P ops Q S n p (e.put dst (.int kd c)) w):GO P ops Q S n k i ⟨dst, .convert src dT x,ty,pos,an,g⟩ p e w:=
 GO.val (fN hk) hw hd (fun a ha w=>by subst hr;simp[execOp,bC ha hx,ajb hs.out hu.out]) h
theorem GO.Hb [Fr](hk:cB k=true){src dT:TypeId}[hs:bH P src .string][hu:bH P dT .string]{x:Operand}{s:ByteArray}(hw:aH ops e ⟨dst, .convert src dT x,ty,pos,an,g⟩=some true)(hx:ev e x=some (.string s))(hd:fits n dst=true)
  (h:GX P ops Q S n p (e.put dst (.string s)) w):GO P ops Q S n k i ⟨dst, .convert src dT x,ty,pos,an,g⟩ p e w:=
 GO.val (fN hk) hw hd (fun a ha w=>by simp[execOp,bC ha hx,convert,run_underlying hs.out,run_underlying hu.out]) h
theorem Pq (a b:ByteArray):a.toList=b.toList↔a=b:=by
 simp only[ByteArray.toList_eq];constructor
 ·intro h;cases a;cases b;simp_all
 ·rintro rfl;rfl
theorem GO.als [Fr](hk:cB k=true){t t2:TypeId}{x y:Operand}{a b:ByteArray}(hw:aH ops e ⟨dst, .binOp .eql t x y t2,ty,pos,an,g⟩=some true)(hx:ev e x=some (.string a))(hy:ev e y=some (.string b))(hd:fits n dst=true)
  (h:GX P ops Q S n p (e.put dst (.bool (decide (a=b)))) w):GO P ops Q S n k i ⟨dst, .binOp .eql t x y t2,ty,pos,an,g⟩ p e w:=
 GO.bin hk hw hx hy hd (fun w=>rfl) (fun w=>by
  have:(a.toList == b.toList)=decide (a=b):=by
   rw[Bool.beq_eq_decide_eq];simp only[Pq]
  simp[binOp,Op.stringOp,this]) h
theorem GO.alv [Fr](hk:cB k=true){t t2:TypeId}{x y:Operand}{a b:ByteArray}(hw:aH ops e ⟨dst, .binOp .neq t x y t2,ty,pos,an,g⟩=some true)(hx:ev e x=some (.string a))(hy:ev e y=some (.string b))(hd:fits n dst=true)
  (h:GX P ops Q S n p (e.put dst (.bool (decide (a≠b)))) w):GO P ops Q S n k i ⟨dst, .binOp .neq t x y t2,ty,pos,an,g⟩ p e w:=
 GO.bin hk hw hx hy hd (fun w=>rfl) (fun w=>by
  have:(!(a.toList == b.toList))=decide (a≠b):=by
   rw[Bool.beq_eq_decide_eq,←decide_not];simp only[Pq,ne_eq]
  simp[binOp,Op.stringOp,this]) h
theorem GO.alr [Fr](hk:cB k=true){t t2:TypeId}{x y:Operand}{a b:ByteArray}(hw:aH ops e ⟨dst, .binOp .add t x y t2,ty,pos,an,g⟩=some true)(hx:ev e x=some (.string a))(hy:ev e y=some (.string b))(hd:fits n dst=true)
  (hl:a.size+b.size≤9223372036854775807) (h:GX P ops Q S n p (e.put dst (.string (a++b))) w):GO P ops Q S n k i ⟨dst, .binOp .add t x y t2,ty,pos,an,g⟩ p e w:=
 GO.bin hk hw hx hy hd (fun w=>rfl) (fun w=>by
  have:¬(IntKind.i64.max<((a.size+b.size:Nat):Int)):=by simp[IntKind.max,IntKind.bits,IntKind.signed];omega
  simp only[binOp,Op.stringOp,gt_iff_lt,this,if_false];rfl) h
theorem GO.GP [Fr](hk:cB k=true){t t2:TypeId}[hu:bH P t .bool]{x y:Operand}{a b:Bool}(hw:aH ops e ⟨dst, .binOp .eql t x y t2,ty,pos,an,g⟩=some true)(hx:ev e x=some (.bool a))(hy:ev e y=some (.bool b))(hd:fits n dst=true)
  (h:GX P ops Q S n p (e.put dst (.bool (a == b))) w):GO P ops Q S n k i ⟨dst, .binOp .eql t x y t2,ty,pos,an,g⟩ p e w:=
 GO.bin hk hw hx hy hd (fun w=>rfl) (fun w=>run_eql_bool w t a b hu.out) h
theorem GO.GR [Fr](hk:cB k=true){t t2:TypeId}[hu:bH P t .bool]{x y:Operand}{a b:Bool}(hw:aH ops e ⟨dst, .binOp .neq t x y t2,ty,pos,an,g⟩=some true)(hx:ev e x=some (.bool a))(hy:ev e y=some (.bool b))(hd:fits n dst=true)
  (h:GX P ops Q S n p (e.put dst (.bool (!(a == b)))) w):GO P ops Q S n k i ⟨dst, .binOp .neq t x y t2,ty,pos,an,g⟩ p e w:=
 GO.bin hk hw hx hy hd (fun w=>rfl) (fun w=>run_neq_bool w t a b hu.out) h
theorem Ym {t el:TypeId}(h:P.underlying t=some (.pointer el)):P.underlying t=some (.pointer (P.pointee t)):=by
 have:P.pointee t=el:=by simp[Program.pointee,h]
 rw[this];exact h
theorem GO.JH [Fr](hk:cB k=true){t t2 el:TypeId}[hu:bH P t (.pointer el)]{x y:Operand}{a:Option Addr}(hw:aH ops e ⟨dst, .binOp .eql t x y t2,ty,pos,an,g⟩=some true)(hx:ev e x=some (.pointer a))(hy:ev e y=some (.pointer none))(hd:fits n dst=true)
  (h:GX P ops Q S n p (e.put dst (.bool a.isNone)) w):GO P ops Q S n k i ⟨dst, .binOp .eql t x y t2,ty,pos,an,g⟩ p e w:=
 GO.bin hk hw hx hy hd (fun w=>rfl) (fun w=>by
  have:=run_eql_pointer_nil (P:=P) (w:=w) t a (Ym hu.out);simpa using this) h
theorem GO.JI [Fr](hk:cB k=true){t t2 el:TypeId}[hu:bH P t (.pointer el)]{x y:Operand}{a:Option Addr}(hw:aH ops e ⟨dst, .binOp .neq t x y t2,ty,pos,an,g⟩=some true)(hx:ev e x=some (.pointer a))(hy:ev e y=some (.pointer none))(hd:fits n dst=true)
  (h:GX P ops Q S n p (e.put dst (.bool a.isSome)) w):GO P ops Q S n k i ⟨dst, .binOp .neq t x y t2,ty,pos,an,g⟩ p e w:=
 GO.bin hk hw hx hy hd (fun w=>rfl) (fun w=>by
  have:=run_neq_pointer_nil (P:=P) (w:=w) t a (Ym hu.out);cases a<;>simpa using this) h
theorem GO.extract [Fr](hk:cB k=true){x:Operand}{ix:Nat}{l:List Value}{v:Value}(hw:aH ops e ⟨dst, .extract x ix,ty,pos,an,g⟩=some true)(hx:ev e x=some (.tuple l.toArray))(hv:l[ix]?=some v)(hd:fits n dst=true)
  (h:GX P ops Q S n p (e.put dst v) w):GO P ops Q S n k i ⟨dst, .extract x ix,ty,pos,an,g⟩ p e w:=
 GO.val (fN hk) hw hd (fun a ha w=>by simp[execOp,bC ha hx,Instr.extract,hv]) h
theorem GO.makeFunc [Fr](hk:cB k=true){fn:Fn}{first captured:Array Operand}{fs cs:List Value}(hw:aH ops e ⟨dst, .makeFunc fn first captured,ty,pos,an,g⟩=some true)(hx:ku e first.toList=some fs)(hy:ku e captured.toList=some cs)(hd:fits n dst=true)
  (h:GX P ops Q S n p (e.put dst (.func fn fs.toArray cs.toArray)) w):GO P ops Q S n k i ⟨dst, .makeFunc fn first captured,ty,pos,an,g⟩ p e w:=
 GO.val (fN hk) hw hd (fun a ha w=>by simp[execOp,Hq ha hx,Hq ha hy,Instr.makeFunc]) h
theorem GO.Je [Fr](hk:cB k=true){x:Operand}{t el:TypeId}{ad:Option Addr}{len cap:Nat}[hu:bH P t (.slice el)](hw:aH ops e ⟨dst, .call ⟨.builtin .len,#[x],#[t]⟩,ty,pos,an,g⟩=some true)(hx:ev e x=some (.slice ad len cap))(hd:fits n dst=true)
  (h:GX P ops Q S n p (e.put dst (.int .i64 len)) w):GO P ops Q S n k i ⟨dst, .call ⟨.builtin .len,#[x],#[t]⟩,ty,pos,an,g⟩ p e w:=
 GO.val (fN hk) hw hd (fun a ha w=>by simp[execOp,resolve,invoke,builtin,Builtin.len_,run_underlying hu.out,bC ha hx,goInt]) h
theorem GO.agn [Fr](hk:cB k=true){x:Operand}{t:TypeId}{s:ByteArray}[hu:bH P t .string](hw:aH ops e ⟨dst, .call ⟨.builtin .len,#[x],#[t]⟩,ty,pos,an,g⟩=some true)(hx:ev e x=some (.string s))(hd:fits n dst=true)
  (h:GX P ops Q S n p (e.put dst (.int .i64 s.size)) w):GO P ops Q S n k i ⟨dst, .call ⟨.builtin .len,#[x],#[t]⟩,ty,pos,an,g⟩ p e w:=
 GO.val (fN hk) hw hd (fun a ha w=>by simp[execOp,resolve,invoke,builtin,Builtin.len_,run_underlying hu.out,bC ha hx,goInt]) h
theorem GO.min2 [Fr](hk:cB k=true){x y:Operand}{ts:Array TypeId}{ki:IntKind}{a b c:Int}(hw:aH ops e ⟨dst, .call ⟨.builtin .min,#[x,y],ts⟩,ty,pos,an,g⟩=some true)(hx:ev e x=some (.int ki a))(hy:ev e y=some (.int ki b))(hd:fits n dst=true)
  (hr:(if b<a then b else a)=c) (h:GX P ops Q S n p (e.put dst (.int ki c)) w):GO P ops Q S n k i ⟨dst, .call ⟨.builtin .min,#[x,y],ts⟩,ty,pos,an,g⟩ p e w:=
 GO.val (fN hk) hw hd (fun a ha w=>by subst hr;simp[execOp,resolve,invoke,builtin,bC ha hx,bC ha hy,run_min_int2]) h
theorem GO.max2 [Fr](hk:cB k=true){x y:Operand}{ts:Array TypeId}{ki:IntKind}{a b c:Int}(hw:aH ops e ⟨dst, .call ⟨.builtin .max,#[x,y],ts⟩,ty,pos,an,g⟩=some true)(hx:ev e x=some (.int ki a))(hy:ev e y=some (.int ki b))(hd:fits n dst=true)
  (hr:(if b > a then b else a)=c) (h:GX P ops Q S n p (e.put dst (.int ki c)) w):GO P ops Q S n k i ⟨dst, .call ⟨.builtin .max,#[x,y],ts⟩,ty,pos,an,g⟩ p e w:=
 GO.val (fN hk) hw hd (fun a ha w=>by subst hr;simp[execOp,resolve,invoke,builtin,bC ha hx,bC ha hy,run_max_int2]) h
end
def bM (w:World):Option Addr→List Value→Prop
 |none,cs=>cs=[]
 |some ⟨b,o,none⟩,cs=>At w b o cs
 |some _,cs=>cs=[]
theorem bM.empty (w:World)(a:Option Addr):bM w a []:=by
 match a with
 |none=>rfl
 |some ⟨b,o,none⟩=>exact At.nil _ _ _
 |some ⟨_,_,some _⟩=>rfl
theorem bM.mod {S:Nat→Prop}{w w':World}{a:Option Addr}{cs:List Value}(h:bM w a cs)(hm:Mod S w w')(hn:∀x,a=some x→¬S x.block):bM w' a cs:=by
 match a,h,hn with
 |none,h,_=>exact h
 |some ⟨b,o,none⟩,h,hn=>exact At.mod h hm (hn _ rfl)
 |some ⟨_,_,some _⟩,h,_=>exact h
theorem bM.ext {w w':World}{a:Option Addr}{cs:List Value}(h:bM w a cs)(hm:Ext w w'):bM w' a cs:=h.mod hm fun _ _ h=>h
theorem bM.nil (w:World):bM w none []:=rfl
theorem bM.XN {w:World}{a:Option Addr}{c:Value}{cs:List Value}(h:bM w a (c::cs)):∃b o,a=some ⟨b,o,none⟩∧At w b o (c::cs):=by
 match a,h with
 |some ⟨b,o,none⟩,h=>exact⟨b,o,rfl,h⟩
theorem bM.rV {w:World}{a:Option Addr}{cs:List Value}(h:bM w a cs)(hl:0<cs.length):∃b o,a=some ⟨b,o,none⟩∧At w b o cs:=by
 cases cs with
 |nil=>simp at hl
 |cons c cs=>exact h.XN
def GU (b:UInt8):Value := .int .u8 b.toNat
def nK (l:List UInt8):List Value:=l.map GU
def str (l:List UInt8):Value := .string ⟨l.toArray⟩
@[simp] theorem agq (l:List UInt8):(nK l).length=l.length:=by simp[nK]
def aG (w:World)(el:TypeId)(sz:Nat)(ob:Option Nat)(a:Option Addr)(len cap:Nat)(cs:List Value):Prop:=
 cs.length=len*sz ∧
 ((ob=none∧cap=len∧bM w a cs∧(a=none→len=0)) ∨
  (∃b,ob=some b∧a=some ⟨b,0,none⟩∧w.ownsRow 0 el sz (.slice a len cap) len cs))
theorem aG.bR {w:World}{el sz:Nat}{ob:Option Nat}{a:Option Addr}{len cap:Nat}{cs:List Value}(h:aG w el sz ob a len cap cs):bM w a cs:=by
 obtain⟨_,⟨_,_,h,_⟩|⟨b,_,rfl,hl,h|⟨g,c,cur,h,_,hg,_,_,_,ht⟩⟩⟩:=h
 ·exact h
 ·cases h.1
 ·cases h;intro i v hv;rw[cell_of_row w _ _ cur el _ hg];rw[←ht,vm] at hv;split at hv
  ·simpa using hv
  ·cases hv
theorem aG.length {w:World}{el sz:Nat}{ob:Option Nat}{a:Option Addr}{len cap:Nat}{cs:List Value}(h:aG w el sz ob a len cap cs):cs.length=len*sz:=h.1
theorem aG.nil (w:World)(el sz:Nat):aG w el sz none none 0 0 []:=⟨by simp, .inl ⟨rfl,rfl,rfl,fun _=>rfl⟩⟩
theorem aG.full {w:World}{el sz:Nat}{a:Option Addr}{len:Nat}{cs:List Value}(hl:cs.length=len*sz)(h:bM w a cs)(h0:a=none→len=0):aG w el sz none a len len cs:=⟨hl, .inl ⟨rfl,rfl,h,h0⟩⟩
theorem aG.block {w:World}{el sz:Nat}{b:Nat}{a:Option Addr}{len cap:Nat}{cs:List Value}(h:aG w el sz (some b) a len cap cs):a=some ⟨b,0,none⟩∧b<w.heap.size:=by
 obtain⟨_,⟨h,_⟩|⟨b',hb,rfl,h⟩⟩:=h
 ·cases h
 ·cases hb;exact⟨rfl,(h.lt b rfl).2⟩
theorem aG.mod {S:Nat→Prop}{w w':World}{el sz:Nat}{ob:Option Nat}{a:Option Addr}{len cap:Nat}{cs:List Value}(h:aG w el sz ob a len cap cs)(hm:Mod S w w')(hn:∀x,a=some x→¬S x.block):aG w' el sz ob a len cap cs:=by
 obtain⟨hl,⟨h1,h2,h3,h4⟩|⟨b,h1,rfl,h2,h|⟨g,c,cur,h,h0,hg,rest⟩⟩⟩:=h
 ·exact⟨hl, .inl ⟨h1,h2,h3.mod hm hn,h4⟩⟩
 ·cases h.1
 ·cases h;exact⟨hl, .inr ⟨_,h1,rfl,h2, .inr ⟨_,_,cur,rfl,h0,hm.row hg (hn _ rfl),rest⟩⟩⟩
theorem aG.ext {w w':World}{el sz:Nat}{ob:Option Nat}{a:Option Addr}{len cap:Nat}{cs:List Value}(h:aG w el sz ob a len cap cs)(hm:Ext w w'):aG w' el sz ob a len cap cs:=h.mod hm fun _ _ h=>h
theorem aG.new {w:World}{el sz b len cap:Nat}{cs:List Value}(h:w.ownsRow 0 el sz (.slice (some ⟨b,0,none⟩) len cap) len cs):aG w el sz (some b) (some ⟨b,0,none⟩) len cap cs:=⟨h.1, .inr ⟨b,rfl,rfl,h⟩⟩
def eS (a:Option Addr)(l m sz:Nat):Option Addr:=if m=l then a else a.map (·.add (l*sz))
theorem bM.sliced {w:World}{a:Option Addr}{cs:List Value}(h:bM w a cs)(l m sz k:Nat)(hm:m=l→k=0):bM w (eS a l m sz) ((cs.drop (l*sz)).take (k*sz)):=by
 unfold eS
 by_cases BT:m=l
 ·have:=hm BT;subst this;simp only[BT,if_true,vo,List.take_zero];exact bM.empty _ _
 ·simp only[BT,if_false]
  match a,h with
  |none,h=>subst h;simp[bM]
  |some ⟨b,o,none⟩,h=>
   simp only[jr,ir];exact At.take h _ _
  |some ⟨b,o,some s⟩,h=>subst h;rw[List.drop_nil,List.take_nil];exact bM.empty _ _
section
variable {P:Program}{ops:Array Oper}{Q:Exit→Act→World→Prop}{S:World→Prop}{n:Nat}
variable {i:Nat}{p:bZ}{e:Env}{w:World}{k:Kd}{dst:Option Tmp}{ty:TypeId}{pos:String}{an:Array Edge}{g:Option (Nat×Bool)}
theorem Xd {t:TypeId}(hf:aC P t false 1){b o:Nat}{v:Value}(h:w.cell? ⟨b,o,none⟩=some v):(Instr.loadAt t (.pointer (some ⟨b,o,none⟩))).run P w = .ok v w:=by
 simp[Instr.loadAt,Instr.sureAddr,loadVar,hf.isAgg,h]
theorem OX {t:TypeId}{sz:Nat}(hf:aC P t true sz){b o:Nat}{l:List Value}(h:At w b o l)(hl:l.length=sz):(Instr.loadAt t (.pointer (some ⟨b,o,none⟩))).run P w = .ok (.agg l.toArray) w:=by
 have:=run_loadCells_list (P:=P) w ⟨b,o,none⟩ l (fun j v hv=>by rw[ir];exact h j v hv);subst hl;simp[Instr.loadAt,Instr.sureAddr,loadVar,hf.isAgg,hf.sizeOf,this]
theorem GO.lj [Fr]{t:TypeId}[hf:aC P t false 1]{x:Operand}{b o:Nat}{v:Value}{l:List Value}(hA:At w b o (v::l))(hw:aH ops e ⟨dst, .load t x,ty,pos,an,g⟩=some true)(hx:ev e x=some (.pointer (some ⟨b,o,none⟩)))(hd:fits n dst=true)
  (h:GX P ops Q S n p (e.put dst v) w):GO P ops Q S n .ax i ⟨dst, .load t x,ty,pos,an,g⟩ p e w:=
 GO.run (R:=fun u w'=>u=v∧w'=w) hw hd (fun a ha=>⟨_,v,w,by
  have hc:w.cell? ⟨b,o,none⟩=some v:=by simpa using hA 0 v rfl
  simp[execOp,bC ha hx,Xd hf hc], .inl rfl,rfl,rfl⟩) (by rintro _ _ ⟨rfl,rfl⟩;exact⟨fun _ h=>h,h⟩)
theorem GO.NR [Fr]{t:TypeId}{sz:Nat}[hf:aC P t true sz]{x:Operand}{b o:Nat}{l:List Value}(hA:At w b o l)(hl:l.length=sz)(hw:aH ops e ⟨dst, .load t x,ty,pos,an,g⟩=some true)(hx:ev e x=some (.pointer (some ⟨b,o,none⟩)))(hd:fits n dst=true)
  (h:GX P ops Q S n p (e.put dst (.agg l.toArray)) w):GO P ops Q S n .ax i ⟨dst, .load t x,ty,pos,an,g⟩ p e w:=
 GO.run (R:=fun u w'=>u = .agg l.toArray∧w'=w) hw hd (fun a ha=>⟨_, .agg l.toArray,w,by simp[execOp,bC ha hx,OX hf hA hl], .inl rfl,rfl,rfl⟩) (by rintro _ _ ⟨rfl,rfl⟩;exact⟨fun _ h=>h,h⟩)
theorem GO.VG [Fr]{t:TypeId}[hf:aC P t false 1]{x:Operand}{b o:Nat}{v:Value}{l:List Value}(hS:S w)(hA:∀w',S w'→At w' b o (v::l))(hw:aH ops e ⟨dst, .load t x,ty,pos,an,g⟩=some true)(hx:ev e x=some (.pointer (some ⟨b,o,none⟩)))(hd:fits n dst=true)
  (h:GX P ops Q S n p (e.put dst v) w):GO P ops Q S n .read i ⟨dst, .load t x,ty,pos,an,g⟩ p e w:=
 GO.rd hS hw hd (fun a ha w' Ak=>by
  have hc:w'.cell? ⟨b,o,none⟩=some v:=by simpa using hA w' Ak 0 v rfl
  simp[execOp,bC ha hx,Xd hf hc]) h
theorem GO.VH [Fr]{t:TypeId}{sz:Nat}[hf:aC P t true sz]{x:Operand}{b o:Nat}{l:List Value}(hS:S w)(hA:∀w',S w'→At w' b o l)(hl:l.length=sz)(hw:aH ops e ⟨dst, .load t x,ty,pos,an,g⟩=some true)(hx:ev e x=some (.pointer (some ⟨b,o,none⟩)))(hd:fits n dst=true)
  (h:GX P ops Q S n p (e.put dst (.agg l.toArray)) w):GO P ops Q S n .read i ⟨dst, .load t x,ty,pos,an,g⟩ p e w:=
 GO.rd hS hw hd (fun a ha w' Ak=>by simp[execOp,bC ha hx,OX hf (hA w' Ak) hl]) h
def Wr (w:World)(b o m:Nat):Prop:=∃c t fr,w.heap[b]?=some (.cells c t fr)∧o+m≤c.size∧∀j,j<m→(decide (fr.1≤o+j)&&decide (o+j<fr.2))=false
theorem cD.wr {b:Nat}{l:List Value}(h:cD w b l){o m:Nat}(hl:o+m≤l.length):Wr w b o m:=by
 obtain⟨t,ht⟩:=h;exact⟨_,t,_,ht,by simpa using hl,fun j _=>by simp⟩
theorem Wr.mod {T:Nat→Prop}{w w':World}{b o m:Nat}(h:Wr w b o m)(hm:Mod T w w')(hn:¬T b):Wr w' b o m:=by
 obtain⟨c,t,fr,hb,rest⟩:=h;exact⟨c,t,fr,hm.row hb hn,rest⟩
theorem Wr.put {w w':World}{b o m b' o':Nat}{vs:List Value}(h:Wr w b o m)(hp:l9 w w' b' o' vs)(hr:Wr w b' o' vs.length):Wr w' b o m:=by
 obtain⟨c,t,fr,hb,h1,h2⟩:=h
 by_cases zJ:b=b'
 ·subst zJ;obtain⟨c',t',fr',ug,h3,_⟩:=hr;rw[hb] at ug;cases ug;refine⟨_,t,fr,hp.here _ _ _ hb,?_,h2⟩;simp only[xh,bJ,dE,lZ,Array.length_toList];omega
 ·exact⟨c,t,fr,(hp.other b zJ).trans hb,h1,h2⟩
theorem CN (b:Nat):∀(vs:List Value) (o:Nat) (w:World) (c:Array Value) (t:TypeId) (fr:Nat×Nat),w.heap[b]?=some (.cells c t fr)→o+vs.length≤c.size→l9 w (w.setCells b o vs) b o vs
 | [],o,w,c,t,fr,hb,ho=>⟨rfl,rfl,rfl,rfl,fun _ _=>rfl,fun c t fr h=>by simpa[World.setCells] using h⟩
 |v::r,o,w,c,t,fr,hb,ho=>by
  have jQ:(w.setCell ⟨b,o,none⟩ v).heap[b]?=some (.cells (c.setIfInBounds o v) t fr):=by
   simp[World.setCell,Array.getElem?_modify,hb]
  have ih:=CN b r (o+1) (w.setCell ⟨b,o,none⟩ v) _ t fr jQ (by simp at ho ⊢;omega);refine⟨ih.os,ih.tape,ih.output,ih.size.trans (by simp),fun k hk=>(ih.other k hk).trans (by simp only[World.setCell,Array.getElem?_modify];rw[if_neg (fun e=>hk e.symm)]),fun c' t' fr' h=>?_⟩;rw[hb] at h;cases h;have h1:=ih.here _ _ _ jQ;rw[World.setCells,h1];congr 2;apply congrArg;have:=list_seg_step c.toList o v r (by simp at ho ⊢;omega);simp only[Array.toList_setIfInBounds];rw[dR];exact this
theorem Xi {t:TypeId}{agg:Bool}{sz:Nat}(hf:aC P t agg sz){b o:Nat}{v:Value}{vs:List Value}(hv:v.cells.toList=vs)(hl:vs.length=sz)(h1:∀u∈vs,u.oneCell'=true)(hW:Wr w b o sz) :
  (Instr.storeAt t (.pointer (some ⟨b,o,none⟩)) v).run P w = .ok () (w.setCells b o vs)∧l9 w (w.setCells b o vs) b o vs:=by
 obtain⟨c,et,fr,hb,ho,hz⟩:=hW;subst hl;have hs:v.cells.size=vs.length:=by rw[←hv];simp
 have h2:=run_storeCells_cells (P:=P) b o vs 0 w (fun j hj=>by
   rw[cell_of_row w b _ c et fr hb];rw[Array.getElem?_eq_getElem ah];rfl)
  (fun j hj=>by
    have:=hz j hj;simp only[World.frozen?,hb,p6];exact this) h1
 refine⟨?_,CN b vs o w c et fr hb ho⟩;simp only[p6] at h2;simp[Instr.storeAt,Instr.sureAddr,storeVar,hf.sizeOf,hs,hv,h2]
theorem GO.store [Fr]{t:TypeId}{agg:Bool}{sz:Nat}[hf:aC P t agg sz]{x y:Operand}{b o:Nat}{v:Value}{vs:List Value}(hW:Wr w b o sz)(hv:v.cells.toList=vs)(hl:vs.length=sz)(h1:∀u∈vs,u.oneCell'=true)
  (hw:aH ops e ⟨none, .store t x y,ty,pos,an,g⟩=some true) (hx:ev e x=some (.pointer (some ⟨b,o,none⟩))) (hy:ev e y=some v)
  (h:∀w',l9 w w' b o vs→(gG ops i=false→S w→S w')∧GX P ops Q S n p e w'):GO P ops Q S n .ax i ⟨none, .store t x y,ty,pos,an,g⟩ p e w:=
 GO.run (R:=fun _ w'=>l9 w w' b o vs) hw rfl (fun a ha=>⟨.skip,undef,_,by simp[execOp,bC ha hx,bC ha hy,(Xi (P:=P) hf hv hl h1 hW).1], .inr ⟨rfl,rfl⟩,(Xi (P:=P) hf hv hl h1 hW).2⟩) (fun _ w' h'=>h w' h')
theorem GO.box [Fr]{t:TypeId}{x:Operand}{v:Value}{l:List Value}(hv:v.cells.toList=l)(hw:aH ops e ⟨dst, .box t x,ty,pos,an,g⟩=some true)(hx:ev e x=some v)(hd:fits n dst=true)
  (h:∀b w',b=w.heap.size→cD w' b l→Ext w w'→(gG ops i=false→S w→S w')∧GX P ops Q S n p (e.put dst (.pointer (some ⟨b,0,none⟩))) w'):GO P ops Q S n .ax i ⟨dst, .box t x,ty,pos,an,g⟩ p e w:=
 GO.run (R:=fun u w'=>u = .pointer (some ⟨w.heap.size,0,none⟩)∧cD w' w.heap.size l∧Ext w w') hw hd
  (fun a ha=>⟨_,_,w.alloc (.cells v.cells t),by simp[execOp,bC ha hx,Instr.box,newVar,newRow], .inl rfl,rfl,by
    have:=cD.new w l t;rw[←hv] at this ⊢;simpa using this,Ext.alloc _ _⟩)
  (by rintro _ w' ⟨rfl,h1,h2⟩;exact h _ w' rfl h1 h2)
def xr (P:Program)(t:TypeId):Option (List Value):=
 match P.info? t with
 |some i=>i.zero.map (·.cells.toList)
 |none=>none
class eQ (P:Program) (t:TypeId) (l:outParam (List Value)):Prop where
 out:xr P t=some l
theorem eQ.zero {t:TypeId}{l:List Value}(h:eQ P t l)(w:World):∃z,(zeroValue t).run P w = .ok z w∧z.cells.toList=l:=by
 have:=h.out;unfold xr at this;split at this
 ·rename_i i hi
  cases hz:i.zero with
  |none=>simp[hz] at this
  |some z=>
   simp[hz] at this;exact⟨z,by simp[zeroValue,typeInfo,hi,hz],by simpa using this⟩
 ·cases this
theorem GO.alloc [Fr]{t:TypeId}{l:List Value}[hz:eQ P t l](hw:aH ops e ⟨dst, .alloc t,ty,pos,an,g⟩=some true)(hd:fits n dst=true)
  (h:∀b w',b=w.heap.size→cD w' b l→Ext w w'→(gG ops i=false→S w→S w')∧GX P ops Q S n p (e.put dst (.pointer (some ⟨b,0,none⟩))) w'):GO P ops Q S n .ax i ⟨dst, .alloc t,ty,pos,an,g⟩ p e w:=by
 obtain⟨z,rM,rN⟩:=hz.zero w;exact GO.run (R:=fun u w'=>u = .pointer (some ⟨w.heap.size,0,none⟩)∧cD w' w.heap.size l∧Ext w w') hw hd
  (fun a ha=>⟨_,_,w.alloc (.cells z.cells t),by simp[execOp,Instr.alloc,rM,newVar,newRow], .inl rfl,rfl,by
    have:=cD.new w l t;rw[←rN] at this ⊢;simpa using this,Ext.alloc _ _⟩)
  (by rintro _ w' ⟨rfl,h1,h2⟩;exact h _ w' rfl h1 h2)
def sJ (place:Nat→Option (Nat×Nat)):List Value→List (Nat×List Value)→Option (List Value)
 |cells,[]=>some cells
 |cells,(i,l)::rest=>match place i with
  |none=>none
  |some (off,size)=>match Nat.beq l.length size,Nat.ble (off+size) cells.length with
   |true,true=>sJ place (cells.take off++l++cells.drop (off+size)) rest
   |_,_=>none
theorem abI (l:List Value):∀(k off:Nat) (cs:Array Value),off+k+l.length≤cs.size →
  ((l.zipIdx k).foldl (fun(cs:Array Value) (x:Value×Nat)=>cs.setIfInBounds (off+x.2) x.1) cs).toList=cs.toList.take (off+k)++l++cs.toList.drop (off+k+l.length):=by
 induction l with
 |nil=>intro k off cs h;simp
 |cons v r ih=>
  intro k off cs h;simp only[List.zipIdx_cons,ph];rw[ih (k+1) off _ (by simp at h ⊢;omega)];have:=list_seg_step cs.toList (off+k) v r (by simp at h ⊢;omega);simp only[Array.toList_setIfInBounds,←Nat.add_assoc];rw[dR,←Nat.add_assoc] at *;simpa[Nat.add_assoc] using this
theorem fill_eq (place:Nat→Option (Nat×Nat)):∀(parts:List (Nat×Value)) (pl:List (Nat×List Value)) (cells:Array Value) (out:List Value),
  parts.map (fun x=>(x.1,x.2.cells.toList))=pl→sJ place cells.toList pl=some out→Instr.fill place cells parts=some out.toArray
 | [],pl,cells,out,hp,h=>by
   subst hp;simp[sJ] at h;subst h;simp[Instr.fill]
 |(i,v)::rest,pl,cells,out,hp,h=>by
  subst hp;simp only[cK,sJ] at h;split at h
  ·cases h
  ·rename_i off size gZ
   simp only[Instr.fill,gZ];split at h
   ·rename_i h1 h2
    have gB:v.cells.size=size:=by have:=Nat.eq_of_beq_eq_true h1;simpa using this
    have mR:off+size≤cells.size:=by have:=vi h2;simpa using this
    subst gB;rw[if_neg (by simp;omega)];refine fill_eq place rest _ _ out rfl ?_;have amw:(Array.foldl (fun cs (x:Value×Nat)=>cs.setIfInBounds (off+x.2) x.1) cells v.cells.zipIdx).toList=cells.toList.take off++v.cells.toList++cells.toList.drop (off+v.cells.size):=by
     have:=abI v.cells.toList 0 off cells (by simpa using mR);rw[←Array.foldl_toList];simpa using this
    rw[←h];congr 1
   ·cases h
def KM (P:Program)(t:TypeId)(pl:List (Nat×List Value)):Option (List Value):=
 match P.underlying t,xr P t with
 |some (.struct fs),some z=>sJ (fun i=>match fs[i]? with
   |some f=>match cy P f.type with
    |some (_,s)=>some (f.offset,s)
    |none=>none
   |none=>none) z pl
 |_,_=>none
theorem aic {fs:Array Field}(jP:∀f∈fs,(cy P f.type).isSome=true)(w:World) :
  (fs.mapM fun f=>do pure (f.offset,←sizeOf f.type):Sem (Array (Nat×Nat))).run P w = .ok (fs.map fun(f:Field)=>(f.offset,((cy P f.type).map (·.2)).getD 0)) w:=by
 have key:∀(l:List Field),(∀f∈l,(cy P f.type).isSome=true)→(l.mapM (fun f=>do pure (f.offset,←sizeOf f.type):Field→Sem (Nat×Nat))).run P w = .ok (l.map fun f=>(f.offset,((cy P f.type).map (·.2)).getD 0)) w:=by
  intro l
  induction l with
  |nil=>intro _;simp
  |cons f r ih=>
   intro h;obtain⟨⟨ag,s⟩,hs⟩:=C7.1 (h f (by simp));have h1:=aC.sizeOf ⟨hs⟩ w;have h2:=ih (fun x hx=>h x (by simp[hx]));simp only[List.mapM_cons,Sem.run_bind,h1,Result.andThen_ok,Sem.run_pure,h2,hs,cK,jr,nC]
 have:=key fs.toList (fun f hf=>jP f (by simpa using hf));rw[Array.mapM_eq_mapM_toList];simp only[Sem.run_map,this,Result.andThen_ok];congr 1;apply Array.toList_inj.1;simp
theorem GO.build [Fr]{k:Kd}(hk:cB k=true){t:TypeId}{parts:Array (Nat×Operand)}{vs:List (Nat×Value)}{pl:List (Nat×List Value)}{out:List Value}(Se:((match P.underlying t with|some (.struct fs)=>fs.all fun f=>(cy P f.type).isSome|_=>false):Bool)=true)
  (hb:KM P t pl=some out) (hw:aH ops e ⟨dst, .build t parts,ty,pos,an,g⟩=some true)
  (hx:parts.toList.mapM (fun x=>(ev e x.2).map fun v=>(x.1,v))=some vs) (hp:vs.map (fun x=>(x.1,x.2.cells.toList))=pl) (hd:fits n dst=true)
  (h:GX P ops Q S n p (e.put dst (.agg out.toArray)) w):GO P ops Q S n k i ⟨dst, .build t parts,ty,pos,an,g⟩ p e w:=by
 refine GO.val (fN hk) hw hd (fun a ha w=>?_) h;have Ab:(parts.map fun(i,x)=>(i,a.eval x)).toList=vs:=by
  have key:∀(l:List (Nat×Operand)) (us:List (Nat×Value)),l.mapM (fun x=>(ev e x.2).map fun v=>(x.1,v))=some us→l.map (fun(i,x)=>(i,a.eval x))=us:=by
   intro l
   induction l with
   |nil=>intro us h;simp at h;simp[h]
   |cons x r ih=>
    intro us h;rw[List.mapM_cons] at h;cases hv:ev e x.2 with
    |none=>simp[hv] at h
    |some v=>
     cases hr:r.mapM (fun x=>(ev e x.2).map fun v=>(x.1,v)) with
     |none=>simp[hv,hr] at h
     |some vr=>
      simp[hv,hr] at h;subst h;simp[bC ha hv,←ih vr hr]
  simpa using key parts.toList vs hx
 unfold KM at hb;split at hb
 ·rename_i fs z hu hz
  obtain⟨z0,rM,rN⟩:=eQ.zero (P:=P) ⟨hz⟩ w;have jP:∀f∈fs,(cy P f.type).isSome=true:=by
   simp only[hu,Array.all_eq_true_iff_forall_mem] at Se;exact Se
  have adP:(fun(i:Nat)=>match fs[i]? with
   |some (f:Field)=>match cy P f.type with
    |some (_,s)=>some (f.offset,s)
    |none=>none
   |none=>none)=((fs.map fun(f:Field)=>(f.offset,((cy P f.type).map (·.2)).getD 0))[·]?):=by
   funext i;cases hf:fs[i]? with
   |none=>simp[hf]
   |some f=>
    obtain⟨⟨ag,s⟩,hs⟩:=C7.1 (jP f (Array.mem_of_getElem? hf));simp[hf,hs]
  rw[adP,←rN] at hb;have hf:=fill_eq _ vs pl z0.cells out hp hb;simp only[execOp,Sem.run_bind,Instr.build,rM,Result.andThen_ok,run_underlying hu,aic jP w,Ab,hf];rfl
 ·cases hb
end
end Go.Proofs.YtmlpbmgfmnmmmaaGreat.V
