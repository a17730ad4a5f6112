/-
  Parts of the proof. No condition.
-/
import Derived.Test.YtmlpbmgfmnmmmaaGreatW2af
set_option linter.unusedVariables false
set_option linter.unusedSimpArgs false
set_option maxRecDepth 8000
set_option maxHeartbeats 8000000
namespace Go.Proofs.YtmlpbmgfmnmmmaaGreat.V.M
attribute [local irreducible] GO GX
abbrev Bs:=List UInt8
theorem alx (l m:List UInt8):(⟨l.toArray⟩:ByteArray)++⟨m.toArray⟩=⟨(l++m).toArray⟩:=by
 apply ByteArray.ext;simp
theorem X5 (l:List UInt8)(a b:Nat):(⟨l.toArray⟩:ByteArray).extract a b=⟨((l.drop a).take (b - a)).toArray⟩:=by
 apply ByteArray.ext;simp[List.extract_eq_take_drop]
theorem X3 (l m:List UInt8):((⟨l.toArray⟩:ByteArray)=⟨m.toArray⟩)↔l=m:=by simp
theorem KP:∀(x y:List UInt8),Op.bytesLess x y=decide (x<y)
 |_,[]=>by cases ‹List UInt8›<;>simp[Op.bytesLess]
 | [],_::_=>by simp[Op.bytesLess]
 |a::x,b::y=>by
  rw[Op.bytesLess,KP x y,Bool.eq_iff_iff];simp[List.cons_lt_cons_iff]
section
variable {P:Program}{ops:Array Oper}{Q:Exit→Act→World→Prop}{S:World→Prop}{n:Nat}
variable {i:Nat}{p:bZ}{e:Env}{w:World}{k:Kd}{dst:Option Tmp}{ty:TypeId}{pos:String}{an:Array Edge}{g:Option (Nat×Bool)}
theorem XZ [Fr](l m:List UInt8)(hk:cB k=true){t t2:TypeId}{x y:Operand}(hw:aH ops e ⟨dst, .binOp .add t x y t2,ty,pos,an,g⟩=some true)(hx:ev e x=some (str l))(hy:ev e y=some (str m))(hd:fits n dst=true)
  (hl:l.length+m.length≤9223372036854775807) (h:GX P ops Q S n p (e.put dst (str (l++m))) w):GO P ops Q S n k i ⟨dst, .binOp .add t x y t2,ty,pos,an,g⟩ p e w:=
 GO.alr hk hw hx hy hd (by simpa[ByteArray.size] using hl) (by rw[alx];exact h)
theorem J6 [Fr](l:List UInt8)(hk:cB k=true){x:Operand}{t:TypeId}[hu:bH P t .string](hw:aH ops e ⟨dst, .call ⟨.builtin .len,#[x],#[t]⟩,ty,pos,an,g⟩=some true)(hx:ev e x=some (str l))(hd:fits n dst=true)
  (h:GX P ops Q S n p (e.put dst (.int .i64 l.length)) w):GO P ops Q S n k i ⟨dst, .call ⟨.builtin .len,#[x],#[t]⟩,ty,pos,an,g⟩ p e w:=
 GO.agn hk hw hx hd (by simpa[ByteArray.size] using h)
theorem J7 [Fr](l m:List UInt8)(hk:cB k=true){t t2:TypeId}{x y:Operand}(hw:aH ops e ⟨dst, .binOp .lss t x y t2,ty,pos,an,g⟩=some true)(hx:ev e x=some (str l))(hy:ev e y=some (str m))(hd:fits n dst=true)
  (h:GX P ops Q S n p (e.put dst (.bool (decide (l<m)))) w):GO P ops Q S n k i ⟨dst, .binOp .lss t x y t2,ty,pos,an,g⟩ p e w:=
 GO.bin hk hw hx hy hd (fun w=>rfl) (fun w=>by
  have:=KP l m;simp[binOp,Op.stringOp,str,this]) h
theorem J5 [Fr](l m:List UInt8)(hk:cB k=true){t t2:TypeId}{x y:Operand}(hw:aH ops e ⟨dst, .binOp .eql t x y t2,ty,pos,an,g⟩=some true)(hx:ev e x=some (str l))(hy:ev e y=some (str m))(hd:fits n dst=true)
  (h:GX P ops Q S n p (e.put dst (.bool (decide (l=m)))) w):GO P ops Q S n k i ⟨dst, .binOp .eql t x y t2,ty,pos,an,g⟩ p e w:=
 GO.als hk hw hx hy hd (by rw[tA.2 (X3 l m)];exact h)
theorem J8 [Fr](l m:List UInt8)(hk:cB k=true){t t2:TypeId}{x y:Operand}(hw:aH ops e ⟨dst, .binOp .neq t x y t2,ty,pos,an,g⟩=some true)(hx:ev e x=some (str l))(hy:ev e y=some (str m))(hd:fits n dst=true)
  (h:GX P ops Q S n p (e.put dst (.bool (decide (l≠m)))) w):GO P ops Q S n k i ⟨dst, .binOp .neq t x y t2,ty,pos,an,g⟩ p e w:=
 GO.alv hk hw hx hy hd (by
  have:((⟨l.toArray⟩:ByteArray)≠⟨m.toArray⟩)↔l≠m:=not_congr (X3 l m);rw[tA.2 this];exact h)
theorem XJ {P:Program}{t el:TypeId}{sz aS:Nat}(hf:cj P t el sz aS){l:List Value}(hl:l.length=sz)(h0:Nat.blt 0 sz=true)(hz:Nat.ble sz 16777216=true):wV P t 1 [(0,l)]=some l:=by
 obtain⟨hu,ii,z,hi,oR,hs,_,_⟩:=hf.facts;subst hl;unfold wV;simp only[hu,hi,oR,hs,Nat.one_mul,h0,hz,sJ,vo];have hb:Nat.beq l.length l.length=true:=Nat.beq_refl _;have iA:((Array.range l.length).map (z.cells[· % z.cells.size]!)).toList.length=l.length:=by simp
 have acK:Nat.ble (0+l.length) ((Array.range l.length).map (z.cells[· % z.cells.size]!)).toList.length=true:=by rw[iA,dA];exact Nat.ble_eq_true_of_le (bj _)
 simp only[hb,acK,List.take_zero,jF];rw[List.drop_eq_nil_of_le (by rw[iA];omega),eY]
theorem GX.yS [Fr]{m:Nat}{t:TypeId}{x:Operand}{v:Value}{l:List Value}{el:TypeId}{sz aS:Nat}
  (ho:ops[i]?=some ⟨dst, .buildSlice t 1 #[(0,x)],ty,pos,an,g⟩) [hf:cj P t el sz aS] (hw:aH ops e ⟨dst, .buildSlice t 1 #[(0,x)],ty,pos,an,g⟩=some true)
  (hx:ev e x=some v) (hv:v.cells.toList=l) (hl:l.length=sz) (h0:Nat.blt 0 sz=true) (hz:Nat.ble sz 16777216=true) (mj:Nat.ble aS 140737488355328=true) (hd:fits n dst=true)
  (h:∀b w',b=w.heap.size→aG w' el sz (some b) (some ⟨b,0,none⟩) 1 1 l→Ext w w'→GX P ops Q (fun _=>True) n (aY (i+1) m) (e.put dst (.slice (some ⟨b,0,none⟩) 1 1)) w'):GX P ops Q (fun _=>True) n (aY i (m+1)) e w:=
 GX.buildSlice (vs:=[(0,v)]) (pl:=[(0,l)]) ho hw (by simp[hx]) (by simp[hv]) (XJ hf hl h0 hz) ⟨by rw[Nat.one_mul];exact mj,rfl⟩ (by rw[hl,Nat.one_mul]) hd h
def P7 (P:Program)(t:TypeId):Option (List (Nat×Nat)×List Value):=
 match P.underlying t,xr P t with
 |some (.struct fs),some z=>match fs.all fun f=>(cy P f.type).isSome with
  |true=>some (fs.toList.map fun f=>(f.offset,match cy P f.type with|some (_,s)=>s|none=>0),z)
  |false=>none
 |_,_=>none
class ek (P:Program) (t:TypeId) (oZ:outParam (List (Nat×Nat))) (z:outParam (List Value)):Prop where
 out:P7 P t=some (oZ,z)
theorem GO.KN [Fr](hk:cB k=true){t:TypeId}{oZ:List (Nat×Nat)}{z:List Value}[hb:ek P t oZ z]{parts:Array (Nat×Operand)}{vs:List (Nat×Value)}{pl:List (Nat×List Value)}{out:List Value}
  (hw:aH ops e ⟨dst, .build t parts,ty,pos,an,g⟩=some true) (hx:parts.toList.mapM (fun x=>(ev e x.2).map fun v=>(x.1,v))=some vs) (hp:vs.map (fun x=>(x.1,x.2.cells.toList))=pl)
  (ho:sJ (fun j=>oZ[j]?) z pl=some out) (hd:fits n dst=true)
  (h:GX P ops Q S n p (e.put dst (.agg out.toArray)) w):GO P ops Q S n k i ⟨dst, .build t parts,ty,pos,an,g⟩ p e w:=by
 have h1:=hb.out;unfold P7 at h1;split at h1
 ·rename_i fs z' hu hz
  split at h1
  ·rename_i jP
   simp only[mD,mB] at h1;obtain⟨h1,rfl⟩:=h1;refine GO.build hk ?_ ?_ hw hx hp hd h
   ·simp only[hu];exact jP
   ·unfold KM;simp only[hu,hz];rw[←ho];congr 1;funext j;rw[←h1,gb];cases hj:fs[j]? with
    |none=>simp[hj]
    |some f=>
     have hm:f∈fs:=Array.mem_of_getElem? hj;have:=Array.all_eq_true'.1 jP f hm;obtain⟨⟨ag,s⟩,hs⟩:=C7.1 this;simp[hj,hs]
  ·cases h1
 ·cases h1
def aZ:List Nat→bZ
 | [] => .done
 |x::r=>match x % 3 with
  |0 => .pure (x / 3) (aZ r)
  |1 => .read (x / 3) (aZ r)
  |_ => .ax (x / 3) (aZ r)
theorem GC.o5 [Fr]{id:Nat}{ops:Array Oper}(pl:bZ)(T:Nat→Prop)(hm:P.follows .mixedOrders=true)(hs:Region.noSelect ops=true)(hp:qg .any ops ops.size (Array.replicate ops.size false) pl=true)
  (h:GX P ops (NoPanic Q) (Mod T w) n pl e w.drew):GC P (.region id ops true) Q n e w:=by
 unfold GX at h;unfold GC;exact fun a ha=>Code.wpIn_mono NoPanic.imp (wpIn_region_any hm (Yr _ _ _ _ (Ds (Region.noSelect_spec hs) (fun _ _ _ h=>h) _ _ _ _ _ hp (h a ha))))
theorem GO.rQ [Fr]{T:Nat→Prop}{w0:World}{t:TypeId}[hf:aC P t false 1]{x:Operand}{b o:Nat}{v:Value}{l l':List Value}(hw:aH ops e ⟨dst, .load t x,ty,pos,an,g⟩=some true)(hx:ev e x=some (.pointer (some ⟨b,o,none⟩)))(hd:fits n dst=true)
  (hB:cD w0 b l) (hT:¬T b) (hS:Mod T w0 w) (hv:l.drop o=v::l') (h:GX P ops Q (Mod T w0) n p (e.put dst v) w):GO P ops Q (Mod T w0) n .read i ⟨dst, .load t x,ty,pos,an,g⟩ p e w:=
 GO.VG hS (fun _ qp=>(hB.mod qp hT).get hv) hw hx hd h
theorem GO.Vz [Fr]{T:Nat→Prop}{w0:World}{t:TypeId}{sz:Nat}[hf:aC P t true sz]{x:Operand}{b o:Nat}{l l':List Value}(hw:aH ops e ⟨dst, .load t x,ty,pos,an,g⟩=some true)(hx:ev e x=some (.pointer (some ⟨b,o,none⟩)))(hd:fits n dst=true)
  (hB:cD w0 b l) (hT:¬T b) (hS:Mod T w0 w) (hl:(l.drop o).take sz=l') (hz:l'.length=sz) (h:GX P ops Q (Mod T w0) n p (e.put dst (.agg l'.toArray)) w):GO P ops Q (Mod T w0) n .read i ⟨dst, .load t x,ty,pos,an,g⟩ p e w:=by
 subst hl;refine GO.VH hS (fun w' qp=>?_) hz hw hx hd h;have h1:=((hB.mod qp hT).get (o:=o) rfl).take 0 sz;rwa [p6,List.drop_zero] at h1
theorem GO.uK [Fr]{T:Nat→Prop}{w0:World}{t:TypeId}[hf:aC P t false 1]{x:Operand}{b o:Nat}{v:Value}{l:List Value}(hA:At w0 b o (v::l))(hT:¬T b)(hS:Mod T w0 w)(hw:aH ops e ⟨dst, .load t x,ty,pos,an,g⟩=some true)(hx:ev e x=some (.pointer (some ⟨b,o,none⟩)))(hd:fits n dst=true)
  (h:GX P ops Q (Mod T w0) n p (e.put dst v) w):GO P ops Q (Mod T w0) n .read i ⟨dst, .load t x,ty,pos,an,g⟩ p e w:=
 GO.VG hS (fun _ qp=>hA.mod qp hT) hw hx hd h
theorem GO.agj [Fr]{T:Nat→Prop}{w0:World}{t:TypeId}{sz:Nat}[hf:aC P t true sz]{x:Operand}{b o:Nat}{l:List Value}(hA:At w0 b o l)(hT:¬T b)(hS:Mod T w0 w)(hl:l.length=sz)(hw:aH ops e ⟨dst, .load t x,ty,pos,an,g⟩=some true)(hx:ev e x=some (.pointer (some ⟨b,o,none⟩)))(hd:fits n dst=true)
  (h:GX P ops Q (Mod T w0) n p (e.put dst (.agg l.toArray)) w):GO P ops Q (Mod T w0) n .read i ⟨dst, .load t x,ty,pos,an,g⟩ p e w:=
 GO.VH hS (fun _ qp=>hA.mod qp hT) hl hw hx hd h
theorem GX.Dn [Fr]{T:Nat→Prop}{w0:World}{p:bZ}{x:Operand}{args:Array Operand}{ts:Array TypeId}{f:FuncId}{fs cs:Array Value}{vs:List Value}{R:Value→World→Prop}{al:List Value}(hc:aj P f al.toArray w R)(hR:∀v w',R v w'→Mod T w w')
  (ho:ops[i]?=some ⟨dst, .call ⟨.value x,args,ts⟩,ty,pos,an,g⟩) (hw:aH ops e ⟨dst, .call ⟨.value x,args,ts⟩,ty,pos,an,g⟩=some true) (hx:ev e x=some (.func (.func f) fs cs)) (hy:ku e args.toList=some vs) (hd:fits n dst=true)
  (b6:fs.toList++vs++cs.toList=al) [hf:aw P f]
  (h:∀v w',R v w'→GX P ops Q (Mod T w0) n p (e.put dst v) w'):GX P ops Q (Mod T w0) n (.ax i p) e w:=
 GX.ax ho (GO.ru hw hx hy hd b6 hc fun v w' hr=>⟨fun _ hS=>hS.trans (hR v w' hr),h v w' hr⟩)
theorem GX.XX [Fr]{T:Nat→Prop}{w0:World}{p:bZ}{t:TypeId}{agg:Bool}{sz:Nat}[hf:aC P t agg sz]{x y:Operand}{b o:Nat}{v:Value}{vs l l':List Value}(hB:cD w b l)(hT:T b∨gG ops i=true)
  (ho:ops[i]?=some ⟨none, .store t x y,ty,pos,an,g⟩) (hw:aH ops e ⟨none, .store t x y,ty,pos,an,g⟩=some true) (hx:ev e x=some (.pointer (some ⟨b,o,none⟩))) (hy:ev e y=some v)
  (hv:v.cells.toList=vs) (hl:vs.length=sz) (hlen:Nat.ble (o+sz) l.length=true) (h1:∀u∈vs,u.oneCell'=true) (hl':l.take o++vs++l.drop (o+vs.length)=l')
  (h:∀w',cD w' b l'→Mod (· = b) w w'→GX P ops Q (Mod T w0) n p e w'):GX P ops Q (Mod T w0) n (.ax i p) e w:=
 GX.ax ho (GO.store (hB.wr (vi hlen)) hv hl h1 hw hx hy fun w' hp=>⟨(fun kY hS=>by
  rcases hT with hT|hT
  ·exact hS.trans (hp.mod.weaken fun k _ hk=>by subst hk;exact hT)
  ·rw[hT] at kY;cases kY),h w' (hl'▸hp.kg hB) hp.mod⟩)
theorem GX.Ql [Fr]{q:bZ}{o oj:Oper}{j t:Nat}{want:Bool}{p:Prop}[Decidable p](ho:ops[i]?=some o)(hg:o.guard=some (j,want))(hj:ops[j]?=some oj)(ht:oj.dst=some t)(hl:look t e=some (.bool (decide p)))
  (h1:p→GX P ops Q S n (.pure i q) ((t, .bool true)::e) w) (h2:¬p→GX P ops Q S n (.pure i q) ((t, .bool false)::e) w):GX P ops Q S n (.pure i q) e w:=
 GX.case t hl (fun h=>h1 (eN h)) fun h=>h2 (y6 h)
theorem GX.Qn [Fr]{q:bZ}{o oj:Oper}{j t:Nat}{want:Bool}{p:Prop}[Decidable p](ho:ops[i]?=some o)(hg:o.guard=some (j,want))(hj:ops[j]?=some oj)(ht:oj.dst=some t)(hl:look t e=some (.bool (!decide p)))
  (h1:¬p→GX P ops Q S n (.pure i q) ((t, .bool true)::e) w) (h2:p→GX P ops Q S n (.pure i q) ((t, .bool false)::e) w):GX P ops Q S n (.pure i q) e w:=
 GX.case t hl (fun h=>h1 (by simpa using h)) fun h=>h2 (by simpa using h)
theorem eJ [Fr]{bo:BinOp}{t t2:TypeId}{x y:Operand}(h:GO P ops Q S n k i ⟨dst, .binOp bo t x y t2,ty,pos,an,g⟩ p e w):GO P ops Q S n k i ⟨dst, .binOp bo t x y t2,ty,pos,an,g⟩ p e w:=h
theorem Dh [Fr]{t:TypeId}{x:Operand}(h:GO P ops Q S n k i ⟨dst, .load t x,ty,pos,an,g⟩ p e w):GO P ops Q S n k i ⟨dst, .load t x,ty,pos,an,g⟩ p e w:=h
theorem Gz [Fr]{t t2:TypeId}{x:Operand}(h:GO P ops Q S n k i ⟨dst, .convert t t2 x,ty,pos,an,g⟩ p e w):GO P ops Q S n k i ⟨dst, .convert t t2 x,ty,pos,an,g⟩ p e w:=h
theorem GD [Fr]{t:TypeId}{x:Operand}{f:Nat}(h:GO P ops Q S n k i ⟨dst, .field t x f,ty,pos,an,g⟩ p e w):GO P ops Q S n k i ⟨dst, .field t x f,ty,pos,an,g⟩ p e w:=h
theorem GI [Fr]{c x y:Operand}(h:GO P ops Q S n k i ⟨dst, .pick c x y,ty,pos,an,g⟩ p e w):GO P ops Q S n k i ⟨dst, .pick c x y,ty,pos,an,g⟩ p e w:=h
theorem GH [Fr]{x:Operand}(h:GO P ops Q S n k i ⟨dst, .nilCheck x,ty,pos,an,g⟩ p e w):GO P ops Q S n k i ⟨dst, .nilCheck x,ty,pos,an,g⟩ p e w:=h
theorem xD [Fr]{op:Op}{gg:Nat×Bool}(h:GO P ops Q S n k i ⟨dst,op,ty,pos,an,some gg⟩ p e w):GO P ops Q S n k i ⟨dst,op,ty,pos,an,some gg⟩ p e w:=h
theorem GG [Fr]{x:Operand}(h:GO P ops Q S n k i ⟨dst, .move x,ty,pos,an,g⟩ p e w):GO P ops Q S n k i ⟨dst, .move x,ty,pos,an,g⟩ p e w:=h
theorem Gw [Fr]{x:Operand}(h:GO P ops Q S n k i ⟨dst, .assign x,ty,pos,an,g⟩ p e w):GO P ops Q S n k i ⟨dst, .assign x,ty,pos,an,g⟩ p e w:=h
theorem GB [Fr]{t:TypeId}{x:Operand}{f:Nat}(h:GO P ops Q S n k i ⟨dst, .fieldAddr t x f,ty,pos,an,g⟩ p e w):GO P ops Q S n k i ⟨dst, .fieldAddr t x f,ty,pos,an,g⟩ p e w:=h
theorem P4 [Fr]{t:TypeId}{x y:Operand}(h:GO P ops Q S n k i ⟨dst, .indexAddr t x y,ty,pos,an,g⟩ p e w):GO P ops Q S n k i ⟨dst, .indexAddr t x y,ty,pos,an,g⟩ p e w:=h
theorem GA [Fr]{x:Operand}{j:Nat}(h:GO P ops Q S n k i ⟨dst, .extract x j,ty,pos,an,g⟩ p e w):GO P ops Q S n k i ⟨dst, .extract x j,ty,pos,an,g⟩ p e w:=h
theorem GJ [Fr]{u:UnOp}{t:TypeId}{x:Operand}(h:GO P ops Q S n k i ⟨dst, .unOp u t x,ty,pos,an,g⟩ p e w):GO P ops Q S n k i ⟨dst, .unOp u t x,ty,pos,an,g⟩ p e w:=h
theorem Gx [Fr]{b:Builtin}{args:Array Operand}{ts:Array TypeId}(h:GO P ops Q S n k i ⟨dst, .call ⟨.builtin b,args,ts⟩,ty,pos,an,g⟩ p e w):GO P ops Q S n k i ⟨dst, .call ⟨.builtin b,args,ts⟩,ty,pos,an,g⟩ p e w:=h
theorem Gy [Fr]{t:TypeId}{ps:Array (Nat×Operand)}(h:GO P ops Q S n k i ⟨dst, .build t ps,ty,pos,an,g⟩ p e w):GO P ops Q S n k i ⟨dst, .build t ps,ty,pos,an,g⟩ p e w:=h
theorem GF [Fr]{f:Fn}{ps qs:Array Operand}(h:GO P ops Q S n k i ⟨dst, .makeFunc f ps qs,ty,pos,an,g⟩ p e w):GO P ops Q S n k i ⟨dst, .makeFunc f ps qs,ty,pos,an,g⟩ p e w:=h
structure fI (q:Prop):Prop where
 out:q
theorem Gg {p q:Prop}[Decidable p][Decidable q](h:p↔q):Value.bool (decide p)=Value.bool (decide q):=congrArg _ (tA.2 h)
theorem xc {q:Prop}[Decidable q](h:¬q):Value.bool false=Value.bool (decide q):=congrArg _ (bt h).symm
theorem go {p q:Prop}(k:q)(h:fI q→p:=by
 intro h
 repeat(first
  |(refine GX.next rfl ?_
    first
    |(refine xD ?_
      refine GO.skip (.inr rfl) rfl rfl ?_)
    |(refine GG ?_
      refine GO.move rfl rfl rfl rfl ?_)
    |(refine GB ?_
      refine GO.fieldAddr rfl rfl rfl rfl rfl ?_)
    |(refine Dh ?_
      first
      |refine GO.NM rfl rfl rfl (by assumption) (by rfl) ?_
      |refine GO.Jc rfl rfl rfl (by assumption) (by rfl) (by rfl) ?_
      |refine GO.rP rfl rfl rfl (by assumption) ?_
      |refine GO.Vy rfl rfl rfl (by assumption) (by rfl) ?_)
    |(refine GH ?_
      first
      |refine GO.nilCheck rfl rfl rfl rfl ?_
      |refine GO.Jq rfl rfl rfl rfl ?_)
    |(refine Gw ?_
      refine GO.assign rfl rfl rfl rfl ?_)
    |(refine eJ ?_
      first
      |(refine eJ (bo := .eql) ?_;first|refine GO.eql rfl rfl rfl rfl rfl ?_|refine J5 _ _ rfl rfl rfl rfl rfl ?_|refine GO.JH rfl rfl rfl rfl rfl ?_|refine GO.JY rfl rfl rfl rfl rfl ?_|refine GO.GP rfl rfl rfl rfl rfl ?_)
      |(refine eJ (bo := .neq) ?_;first|refine GO.neq rfl rfl rfl rfl rfl ?_|refine J8 _ _ rfl rfl rfl rfl rfl ?_|refine GO.JI rfl rfl rfl rfl rfl ?_|refine GO.JZ rfl rfl rfl rfl rfl ?_|refine GO.GR rfl rfl rfl rfl rfl ?_)
      |(refine eJ (bo := .lss) ?_;first|refine GO.lss rfl rfl rfl rfl rfl ?_|refine J7 _ _ rfl rfl rfl rfl rfl ?_)
      |(refine eJ (bo := .gtr) ?_;refine GO.gtr rfl rfl rfl rfl rfl ?_)
      |(refine eJ (bo := .leq) ?_;refine GO.leq rfl rfl rfl rfl rfl ?_)
      |(refine eJ (bo := .geq) ?_;refine GO.geq rfl rfl rfl rfl rfl ?_)
      |(refine eJ (bo := .add) ?_;refine GO.add rfl rfl rfl rfl rfl (kN (by dsimp only[kR];omega)) ?_)
      |(refine eJ (bo := .sub) ?_;refine GO.sub rfl rfl rfl rfl rfl (kN (by dsimp only[kR];omega)) ?_))
    |(refine Gx ?_
      first
      |refine GO.Je rfl rfl rfl rfl ?_
      |refine J6 _ rfl rfl rfl rfl ?_
      |refine GO.max2 rfl rfl rfl rfl rfl rfl ?_
      |refine GO.min2 rfl rfl rfl rfl rfl rfl ?_)
    |(refine GA ?_
      refine GO.extract rfl rfl rfl rfl rfl ?_)
    |(refine GJ ?_
      refine GO.not rfl rfl rfl rfl ?_)
    |(refine GI ?_
      first
      |refine GO.JE rfl rfl rfl rfl rfl ?_
      |refine GO.JD rfl rfl rfl rfl rfl ?_)
    |(refine Gz ?_
      first
      |refine GO.conv rfl rfl rfl rfl (kN (by dsimp only[kR];omega)) ?_
      |refine GO.Hb rfl rfl rfl rfl ?_)
    |(refine GD ?_
      first
      |refine GO.Hr rfl rfl rfl rfl rfl ?_
      |refine GO.Ht rfl rfl rfl rfl rfl ?_)
    |(refine Gy ?_
      refine GO.KN rfl rfl rfl rfl rfl rfl ?_)
    |(refine GF ?_
      refine GO.makeFunc rfl rfl rfl rfl rfl ?_)
    |refine GO.entry rfl rfl rfl (by assumption) ?_)
  |refine GX.stop ?_
  |refine GC.seq ?_
  |refine GC.WX rfl ?_
  |refine GQ.DG ?_
  |refine GC.ret ?_
  |refine GC.skip ?_
  |refine GC.block ?_
  |refine GC.exit ?_
  |refine GC.Bl rfl ?_
  |refine GC.QN rfl ?_
  |refine GX.QY ?_
  |refine GX.done ?_
  |refine GQ.RB ?_
  |refine GQ.RC ?_
  |refine GQ.T7 ?_
  |refine GQ.T5 ?_
  |refine GQ.T6 rfl ?_
  |refine GQ.T9 ?_
  |refine GQ.VJ ?_
  |refine GQ.VK ?_
  |refine GQ.QV ?_
  |refine GQ.QW ?_
  |(refine GX.pure rfl ?_
    first
    |(refine xD ?_
      refine GO.skip (.inl rfl) rfl rfl ?_)
    |(refine GG ?_
      refine GO.move rfl rfl rfl rfl ?_)
    |(refine GB ?_
      refine GO.fieldAddr rfl rfl rfl rfl rfl ?_)
    |(refine GH ?_
      first
      |refine GO.nilCheck rfl rfl rfl rfl ?_
      |refine GO.Jq rfl rfl rfl rfl ?_)
    |(refine Gw ?_
      refine GO.assign rfl rfl rfl rfl ?_)
    |(refine eJ ?_
      first
      |(refine eJ (bo := .eql) ?_;first|refine GO.eql rfl rfl rfl rfl rfl ?_|refine J5 _ _ rfl rfl rfl rfl rfl ?_|refine GO.JH rfl rfl rfl rfl rfl ?_|refine GO.JY rfl rfl rfl rfl rfl ?_|refine GO.GP rfl rfl rfl rfl rfl ?_)
      |(refine eJ (bo := .neq) ?_;first|refine GO.neq rfl rfl rfl rfl rfl ?_|refine J8 _ _ rfl rfl rfl rfl rfl ?_|refine GO.JI rfl rfl rfl rfl rfl ?_|refine GO.JZ rfl rfl rfl rfl rfl ?_|refine GO.GR rfl rfl rfl rfl rfl ?_)
      |(refine eJ (bo := .lss) ?_;first|refine GO.lss rfl rfl rfl rfl rfl ?_|refine J7 _ _ rfl rfl rfl rfl rfl ?_)
      |(refine eJ (bo := .gtr) ?_;refine GO.gtr rfl rfl rfl rfl rfl ?_)
      |(refine eJ (bo := .leq) ?_;refine GO.leq rfl rfl rfl rfl rfl ?_)
      |(refine eJ (bo := .geq) ?_;refine GO.geq rfl rfl rfl rfl rfl ?_)
      |(refine eJ (bo := .add) ?_;refine GO.add rfl rfl rfl rfl rfl (kN (by dsimp only[kR];omega)) ?_)
      |(refine eJ (bo := .sub) ?_;refine GO.sub rfl rfl rfl rfl rfl (kN (by dsimp only[kR];omega)) ?_))
    |(refine Gx ?_
      first
      |refine GO.Je rfl rfl rfl rfl ?_
      |refine J6 _ rfl rfl rfl rfl ?_
      |refine GO.max2 rfl rfl rfl rfl rfl rfl ?_
      |refine GO.min2 rfl rfl rfl rfl rfl rfl ?_)
    |(refine GA ?_
      refine GO.extract rfl rfl rfl rfl rfl ?_)
    |(refine GJ ?_
      refine GO.not rfl rfl rfl rfl ?_)
    |(refine GI ?_
      first
      |refine GO.JE rfl rfl rfl rfl rfl ?_
      |refine GO.JD rfl rfl rfl rfl rfl ?_)
    |(refine Gz ?_
      first
      |refine GO.conv rfl rfl rfl rfl (kN (by dsimp only[kR];omega)) ?_
      |refine GO.Hb rfl rfl rfl rfl ?_)
    |(refine GD ?_
      first
      |refine GO.Hr rfl rfl rfl rfl rfl ?_
      |refine GO.Ht rfl rfl rfl rfl rfl ?_)
    |(refine Gy ?_
      refine GO.KN rfl rfl rfl rfl rfl rfl ?_)
    |(refine GF ?_
      refine GO.makeFunc rfl rfl rfl rfl rfl ?_))
  |(refine GX.read rfl ?_
    first
    |(refine xD ?_
      refine GO.XH (by first|exact Ext.drew _|exact Ext.mod (Ext.drew _)|assumption) rfl rfl ?_)
    |(refine Dh ?_
      first
      |refine GO.rQ rfl rfl rfl (by assumption) (by first|exact id|assumption) (by first|exact Ext.drew _|exact Ext.mod (Ext.drew _)|assumption) (by rfl) ?_
      |refine GO.Vz rfl rfl rfl (by assumption) (by first|exact id|assumption) (by first|exact Ext.drew _|exact Ext.mod (Ext.drew _)|assumption) (by rfl) (by rfl) ?_))
  |(refine GX.ax rfl ?_;refine xD ?_;refine GO.skip (.inr rfl) rfl rfl ?_)
  |refine GQ.r1 rfl rfl ?_
  |refine GQ.r0 rfl ?_
  |refine GQ.WM rfl ?_
  |refine GQ.r2 rfl rfl rfl ?_
  |refine GQ.r3 rfl rfl rfl rfl ?_)
 exact fI.out h):p:=h ⟨k⟩
theorem dj {p c1 c2 p1 p2:Prop}(k1:c1→p1)(k2:c2→p2)(h:fI (c1→p1)→fI (c2→p2)→p:=by
 intro h1 h2
 first
  |exact GC.QM rfl (fI.out h1) (fI.out h2)
  |exact GC.QO rfl (fI.out h1) (fI.out h2)
  |exact GX.Qk rfl rfl rfl rfl rfl (fI.out h1) (fI.out h2)
  |exact GX.Qm rfl rfl rfl rfl rfl (fI.out h1) (fI.out h2)
  |exact GX.Ql rfl rfl rfl rfl rfl (fI.out h1) (fI.out h2)
  |exact GX.Qn rfl rfl rfl rfl rfl (fI.out h1) (fI.out h2)):p:=h ⟨k1⟩ ⟨k2⟩
end
end Go.Proofs.YtmlpbmgfmnmmmaaGreat.V.M
