/-
  Parts of the proof. No condition.
-/
import Derived.Test.YtoloaehmppcjoaaGreatW2af
set_option linter.unusedVariables false
set_option linter.unusedSimpArgs false
set_option maxRecDepth 8000
set_option maxHeartbeats 8000000
namespace Go.Proofs.YtoloaehmppcjoaaGreat.V.M
attribute [local irreducible] GO GX
abbrev Bs:=List UInt8
theorem alo (l m:List UInt8):(⟨l.toArray⟩:ByteArray)++⟨m.toArray⟩=⟨(l++m).toArray⟩:=by
 apply ByteArray.ext;simp
theorem X6 (l:List UInt8)(a b:Nat):(⟨l.toArray⟩:ByteArray).extract a b=⟨((l.drop a).take (b - a)).toArray⟩:=by
 apply ByteArray.ext;simp[List.extract_eq_take_drop]
theorem X4 (l m:List UInt8):((⟨l.toArray⟩:ByteArray)=⟨m.toArray⟩)↔l=m:=by simp
theorem K1:∀(x y:List UInt8),Op.bytesLess x y=decide (x<y)
 |_,[]=>by cases ‹List UInt8›<;>simp[Op.bytesLess]
 | [],_::_=>by simp[Op.bytesLess]
 |a::x,b::y=>by
  rw[Op.bytesLess,K1 x y,Bool.eq_iff_iff];simp[List.cons_lt_cons_iff]
section
variable {P:Program}{ops:Array Oper}{Q:Exit→Act→World→Prop}{S:World→Prop}{n:Nat}
variable {i:Nat}{p:b6}{e:Env}{w:World}{k:Kd}{dst:Option Tmp}{ty:TypeId}{pos:String}{an:Array Edge}{g:Option (Nat×Bool)}
theorem X3 [Fr](l m:List UInt8)(hk:cC k=true){t t2:TypeId}{x y:Operand}(hw:aI ops e ⟨dst, .binOp .add t x y t2,ty,pos,an,g⟩=some true)(hx:ev e x=some (str l))(hy:ev e y=some (str m))(hd:fits n dst=true)
  (hl:l.length+m.length≤9223372036854775807) (h:GX P ops Q S n p (e.put dst (str (l++m))) w):GO P ops Q S n k i ⟨dst, .binOp .add t x y t2,ty,pos,an,g⟩ p e w:=
 GO.ali hk hw hx hy hd (by simpa[ByteArray.size] using hl) (by rw[alo];exact h)
theorem Kk [Fr](l:List UInt8)(hk:cC k=true){x:Operand}{t:TypeId}[hu:bI P t .string](hw:aI ops e ⟨dst, .call ⟨.builtin .len,#[x],#[t]⟩,ty,pos,an,g⟩=some true)(hx:ev e x=some (str l))(hd:fits n dst=true)
  (h:GX P ops Q S n p (e.put dst (.int .i64 l.length)) w):GO P ops Q S n k i ⟨dst, .call ⟨.builtin .len,#[x],#[t]⟩,ty,pos,an,g⟩ p e w:=
 GO.agq hk hw hx hd (by simpa[ByteArray.size] using h)
theorem Kl [Fr](l m:List UInt8)(hk:cC k=true){t t2:TypeId}{x y:Operand}(hw:aI ops e ⟨dst, .binOp .lss t x y t2,ty,pos,an,g⟩=some true)(hx:ev e x=some (str l))(hy:ev e y=some (str m))(hd:fits n dst=true)
  (h:GX P ops Q S n p (e.put dst (.bool (decide (l<m)))) w):GO P ops Q S n k i ⟨dst, .binOp .lss t x y t2,ty,pos,an,g⟩ p e w:=
 GO.bin hk hw hx hy hd (fun w=>rfl) (fun w=>by
  have:=K1 l m;simp[binOp,Op.stringOp,str,this]) h
theorem Kj [Fr](l m:List UInt8)(hk:cC k=true){t t2:TypeId}{x y:Operand}(hw:aI ops e ⟨dst, .binOp .eql t x y t2,ty,pos,an,g⟩=some true)(hx:ev e x=some (str l))(hy:ev e y=some (str m))(hd:fits n dst=true)
  (h:GX P ops Q S n p (e.put dst (.bool (decide (l=m)))) w):GO P ops Q S n k i ⟨dst, .binOp .eql t x y t2,ty,pos,an,g⟩ p e w:=
 GO.alj hk hw hx hy hd (by rw[vw.2 (X4 l m)];exact h)
theorem Km [Fr](l m:List UInt8)(hk:cC k=true){t t2:TypeId}{x y:Operand}(hw:aI ops e ⟨dst, .binOp .neq t x y t2,ty,pos,an,g⟩=some true)(hx:ev e x=some (str l))(hy:ev e y=some (str m))(hd:fits n dst=true)
  (h:GX P ops Q S n p (e.put dst (.bool (decide (l≠m)))) w):GO P ops Q S n k i ⟨dst, .binOp .neq t x y t2,ty,pos,an,g⟩ p e w:=
 GO.alm hk hw hx hy hd (by
  have:((⟨l.toArray⟩:ByteArray)≠⟨m.toArray⟩)↔l≠m:=not_congr (X4 l m);rw[vw.2 this];exact h)
theorem XK {P:Program}{t el:TypeId}{sz aT:Nat}(hf:cr P t el sz aT){l:List Value}(hl:l.length=sz)(h0:Nat.blt 0 sz=true)(hz:Nat.ble sz 16777216=true):xh P t 1 [(0,l)]=some l:=by
 obtain⟨hu,ii,z,hi,pc,hs,_,_⟩:=hf.facts;subst hl;unfold xh;simp only[hu,hi,pc,hs,Nat.one_mul,h0,hz,tj,vB];have hb:Nat.beq l.length l.length=true:=Nat.beq_refl _;have jf:((Array.range l.length).map (z.cells[· % z.cells.size]!)).toList.length=l.length:=by simp
 have acU:Nat.ble (0+l.length) ((Array.range l.length).map (z.cells[· % z.cells.size]!)).toList.length=true:=by rw[jf,dz];exact Nat.ble_eq_true_of_le (aY _)
 simp only[hb,acU,List.take_zero,kC];rw[List.drop_eq_nil_of_le (by rw[jf];omega),fB]
theorem GX.yR [Fr]{m:Nat}{t:TypeId}{x:Operand}{v:Value}{l:List Value}{el:TypeId}{sz aT:Nat}
  (ho:ops[i]?=some ⟨dst, .buildSlice t 1 #[(0,x)],ty,pos,an,g⟩) [hf:cr P t el sz aT] (hw:aI ops e ⟨dst, .buildSlice t 1 #[(0,x)],ty,pos,an,g⟩=some true)
  (hx:ev e x=some v) (hv:v.cells.toList=l) (hl:l.length=sz) (h0:Nat.blt 0 sz=true) (hz:Nat.ble sz 16777216=true) (mF:Nat.ble aT 140737488355328=true) (hd:fits n dst=true)
  (h:∀b w',b=w.heap.size→aH w' el sz (some b) (some ⟨b,0,none⟩) 1 1 l→Ext w w'→GX P ops Q (fun _=>True) n (bc (i+1) m) (e.put dst (.slice (some ⟨b,0,none⟩) 1 1)) w'):GX P ops Q (fun _=>True) n (bc i (m+1)) e w:=
 GX.buildSlice (vs:=[(0,v)]) (pl:=[(0,l)]) ho hw (by simp[hx]) (by simp[hv]) (XK hf hl h0 hz) ⟨by rw[Nat.one_mul];exact mF,rfl⟩ (by rw[hl,Nat.one_mul]) hd h
def P' (P:Program)(t:TypeId):Option (List (Nat×Nat)×List Value):=
 match P.underlying t,xA P t with
 |some (.struct fs),some z=>match fs.all fun f=>(cD P f.type).isSome with
  |true=>some (fs.toList.map fun f=>(f.offset,match cD P f.type with|some (_,s)=>s|none=>0),z)
  |false=>none
 |_,_=>none
class eD (P:Program) (t:TypeId) (pn:outParam (List (Nat×Nat))) (z:outParam (List Value)):Prop where
 out:P' P t=some (pn,z)
theorem GO.KY [Fr](hk:cC k=true){t:TypeId}{pn:List (Nat×Nat)}{z:List Value}[hb:eD P t pn z]{parts:Array (Nat×Operand)}{vs:List (Nat×Value)}{pl:List (Nat×List Value)}{out:List Value}
  (hw:aI ops e ⟨dst, .build t parts,ty,pos,an,g⟩=some true) (hx:parts.toList.mapM (fun x=>(ev e x.2).map fun v=>(x.1,v))=some vs) (hp:vs.map (fun x=>(x.1,x.2.cells.toList))=pl)
  (ho:tj (fun j=>pn[j]?) z pl=some out) (hd:fits n dst=true)
  (h:GX P ops Q S n p (e.put dst (.agg out.toArray)) w):GO P ops Q S n k i ⟨dst, .build t parts,ty,pos,an,g⟩ p e w:=by
 have h1:=hb.out;unfold P' at h1;split at h1
 ·rename_i fs z' hu hz
  split at h1
  ·rename_i gA
   simp only[mU,oI] at h1;obtain⟨h1,rfl⟩:=h1;refine GO.build hk ?_ ?_ hw hx hp hd h
   ·simp only[hu];exact gA
   ·unfold KX;simp only[hu,hz];rw[←ho];congr 1;funext j;rw[←h1,gG];cases hj:fs[j]? with
    |none=>simp[hj]
    |some f=>
     have hm:f∈fs:=Array.mem_of_getElem? hj;have:=Array.all_eq_true'.1 gA f hm;obtain⟨⟨ag,s⟩,hs⟩:=Gq.1 this;simp[hj,hs]
  ·cases h1
 ·cases h1
def bg:List Nat→b6
 | [] => .done
 |x::r=>match x % 3 with
  |0 => .pure (x / 3) (bg r)
  |1 => .read (x / 3) (bg r)
  |_ => .aw (x / 3) (bg r)
theorem GC.pv [Fr]{id:Nat}{ops:Array Oper}(pl:b6)(T:Nat→Prop)(hm:P.follows .mixedOrders=true)(hs:Region.noSelect ops=true)(hp:qF .any ops ops.size (Array.replicate ops.size false) pl=true)
  (h:GX P ops (NoPanic Q) (Mod T w) n pl e w.drew):GC P (.region id ops true) Q n e w:=by
 unfold GX at h;unfold GC;exact fun a ha=>Code.wpIn_mono NoPanic.imp (wpIn_region_any hm (Yt _ _ _ _ (Dv (Region.noSelect_spec hs) (fun _ _ _ h=>h) _ _ _ _ _ hp (h a ha))))
theorem GO.su [Fr]{T:Nat→Prop}{w0:World}{t:TypeId}[hf:aC P t false 1]{x:Operand}{b o:Nat}{v:Value}{l l':List Value}(hw:aI ops e ⟨dst, .load t x,ty,pos,an,g⟩=some true)(hx:ev e x=some (.pointer (some ⟨b,o,none⟩)))(hd:fits n dst=true)
  (hB:cE w0 b l) (hT:¬T b) (hS:Mod T w0 w) (hv:l.drop o=v::l') (h:GX P ops Q (Mod T w0) n p (e.put dst v) w):GO P ops Q (Mod T w0) n .read i ⟨dst, .load t x,ty,pos,an,g⟩ p e w:=
 GO.VH hS (fun _ qN=>(hB.mod qN hT).get hv) hw hx hd h
theorem GO.VA [Fr]{T:Nat→Prop}{w0:World}{t:TypeId}{sz:Nat}[hf:aC P t true sz]{x:Operand}{b o:Nat}{l l':List Value}(hw:aI ops e ⟨dst, .load t x,ty,pos,an,g⟩=some true)(hx:ev e x=some (.pointer (some ⟨b,o,none⟩)))(hd:fits n dst=true)
  (hB:cE w0 b l) (hT:¬T b) (hS:Mod T w0 w) (hl:(l.drop o).take sz=l') (hz:l'.length=sz) (h:GX P ops Q (Mod T w0) n p (e.put dst (.agg l'.toArray)) w):GO P ops Q (Mod T w0) n .read i ⟨dst, .load t x,ty,pos,an,g⟩ p e w:=by
 subst hl;refine GO.VI hS (fun w' qN=>?_) hz hw hx hd h;have h1:=((hB.mod qN hT).get (o:=o) rfl).take 0 sz;rwa [qy,List.drop_zero] at h1
theorem GO.pe [Fr]{T:Nat→Prop}{w0:World}{t:TypeId}[hf:aC P t false 1]{x:Operand}{b o:Nat}{v:Value}{l:List Value}(hA:At w0 b o (v::l))(hT:¬T b)(hS:Mod T w0 w)(hw:aI ops e ⟨dst, .load t x,ty,pos,an,g⟩=some true)(hx:ev e x=some (.pointer (some ⟨b,o,none⟩)))(hd:fits n dst=true)
  (h:GX P ops Q (Mod T w0) n p (e.put dst v) w):GO P ops Q (Mod T w0) n .read i ⟨dst, .load t x,ty,pos,an,g⟩ p e w:=
 GO.VH hS (fun _ qN=>hA.mod qN hT) hw hx hd h
theorem GO.agl [Fr]{T:Nat→Prop}{w0:World}{t:TypeId}{sz:Nat}[hf:aC P t true sz]{x:Operand}{b o:Nat}{l:List Value}(hA:At w0 b o l)(hT:¬T b)(hS:Mod T w0 w)(hl:l.length=sz)(hw:aI ops e ⟨dst, .load t x,ty,pos,an,g⟩=some true)(hx:ev e x=some (.pointer (some ⟨b,o,none⟩)))(hd:fits n dst=true)
  (h:GX P ops Q (Mod T w0) n p (e.put dst (.agg l.toArray)) w):GO P ops Q (Mod T w0) n .read i ⟨dst, .load t x,ty,pos,an,g⟩ p e w:=
 GO.VI hS (fun _ qN=>hA.mod qN hT) hl hw hx hd h
theorem GX.Dp [Fr]{T:Nat→Prop}{w0:World}{p:b6}{x:Operand}{args:Array Operand}{ts:Array TypeId}{f:FuncId}{fs cs:Array Value}{vs:List Value}{R:Value→World→Prop}{al:List Value}(hc:aj P f al.toArray w R)(hR:∀v w',R v w'→Mod T w w')
  (ho:ops[i]?=some ⟨dst, .call ⟨.value x,args,ts⟩,ty,pos,an,g⟩) (hw:aI ops e ⟨dst, .call ⟨.value x,args,ts⟩,ty,pos,an,g⟩=some true) (hx:ev e x=some (.func (.func f) fs cs)) (hy:kO e args.toList=some vs) (hd:fits n dst=true)
  (cj:fs.toList++vs++cs.toList=al) [hf:ax P f]
  (h:∀v w',R v w'→GX P ops Q (Mod T w0) n p (e.put dst v) w'):GX P ops Q (Mod T w0) n (.aw i p) e w:=
 GX.aw ho (GO.rL hw hx hy hd cj hc fun v w' hr=>⟨fun _ hS=>hS.trans (hR v w' hr),h v w' hr⟩)
theorem GX.XZ [Fr]{T:Nat→Prop}{w0:World}{p:b6}{t:TypeId}{agg:Bool}{sz:Nat}[hf:aC P t agg sz]{x y:Operand}{b o:Nat}{v:Value}{vs l l':List Value}(hB:cE w b l)(hT:T b∨gS ops i=true)
  (ho:ops[i]?=some ⟨none, .store t x y,ty,pos,an,g⟩) (hw:aI ops e ⟨none, .store t x y,ty,pos,an,g⟩=some true) (hx:ev e x=some (.pointer (some ⟨b,o,none⟩))) (hy:ev e y=some v)
  (hv:v.cells.toList=vs) (hl:vs.length=sz) (hlen:Nat.ble (o+sz) l.length=true) (h1:∀u∈vs,u.oneCell'=true) (hl':l.take o++vs++l.drop (o+vs.length)=l')
  (h:∀w',cE w' b l'→Mod (· = b) w w'→GX P ops Q (Mod T w0) n p e w'):GX P ops Q (Mod T w0) n (.aw i p) e w:=
 GX.aw ho (GO.store (hB.wr (vq hlen)) hv hl h1 hw hx hy fun w' hp=>⟨(fun lz hS=>by
  rcases hT with hT|hT
  ·exact hS.trans (hp.mod.weaken fun k _ hk=>by subst hk;exact hT)
  ·rw[hT] at lz;cases lz),h w' (hl'▸hp.kK hB) hp.mod⟩)
theorem GX.Qo [Fr]{q:b6}{o oj:Oper}{j t:Nat}{want:Bool}{p:Prop}[Decidable p](ho:ops[i]?=some o)(hg:o.guard=some (j,want))(hj:ops[j]?=some oj)(ht:oj.dst=some t)(hl:look t e=some (.bool (decide p)))
  (h1:p→GX P ops Q S n (.pure i q) ((t, .bool true)::e) w) (h2:¬p→GX P ops Q S n (.pure i q) ((t, .bool false)::e) w):GX P ops Q S n (.pure i q) e w:=
 GX.case t hl (fun h=>h1 (dM h)) fun h=>h2 (xy h)
theorem GX.Qq [Fr]{q:b6}{o oj:Oper}{j t:Nat}{want:Bool}{p:Prop}[Decidable p](ho:ops[i]?=some o)(hg:o.guard=some (j,want))(hj:ops[j]?=some oj)(ht:oj.dst=some t)(hl:look t e=some (.bool (!decide p)))
  (h1:¬p→GX P ops Q S n (.pure i q) ((t, .bool true)::e) w) (h2:p→GX P ops Q S n (.pure i q) ((t, .bool false)::e) w):GX P ops Q S n (.pure i q) e w:=
 GX.case t hl (fun h=>h1 (by simpa using h)) fun h=>h2 (by simpa using h)
theorem eW [Fr]{bo:BinOp}{t t2:TypeId}{x y:Operand}(h:GO P ops Q S n k i ⟨dst, .binOp bo t x y t2,ty,pos,an,g⟩ p e w):GO P ops Q S n k i ⟨dst, .binOp bo t x y t2,ty,pos,an,g⟩ p e w:=h
theorem Di [Fr]{t:TypeId}{x:Operand}(h:GO P ops Q S n k i ⟨dst, .load t x,ty,pos,an,g⟩ p e w):GO P ops Q S n k i ⟨dst, .load t x,ty,pos,an,g⟩ p e w:=h
theorem GB [Fr]{t t2:TypeId}{x:Operand}(h:GO P ops Q S n k i ⟨dst, .convert t t2 x,ty,pos,an,g⟩ p e w):GO P ops Q S n k i ⟨dst, .convert t t2 x,ty,pos,an,g⟩ p e w:=h
theorem GG [Fr]{t:TypeId}{x:Operand}{f:Nat}(h:GO P ops Q S n k i ⟨dst, .field t x f,ty,pos,an,g⟩ p e w):GO P ops Q S n k i ⟨dst, .field t x f,ty,pos,an,g⟩ p e w:=h
theorem GK [Fr]{c x y:Operand}(h:GO P ops Q S n k i ⟨dst, .pick c x y,ty,pos,an,g⟩ p e w):GO P ops Q S n k i ⟨dst, .pick c x y,ty,pos,an,g⟩ p e w:=h
theorem GJ [Fr]{x:Operand}(h:GO P ops Q S n k i ⟨dst, .nilCheck x,ty,pos,an,g⟩ p e w):GO P ops Q S n k i ⟨dst, .nilCheck x,ty,pos,an,g⟩ p e w:=h
theorem xK [Fr]{op:Op}{gg:Nat×Bool}(h:GO P ops Q S n k i ⟨dst,op,ty,pos,an,some gg⟩ p e w):GO P ops Q S n k i ⟨dst,op,ty,pos,an,some gg⟩ p e w:=h
theorem GI [Fr]{x:Operand}(h:GO P ops Q S n k i ⟨dst, .move x,ty,pos,an,g⟩ p e w):GO P ops Q S n k i ⟨dst, .move x,ty,pos,an,g⟩ p e w:=h
theorem Gy [Fr]{x:Operand}(h:GO P ops Q S n k i ⟨dst, .assign x,ty,pos,an,g⟩ p e w):GO P ops Q S n k i ⟨dst, .assign x,ty,pos,an,g⟩ p e w:=h
theorem GF [Fr]{t:TypeId}{x:Operand}{f:Nat}(h:GO P ops Q S n k i ⟨dst, .fieldAddr t x f,ty,pos,an,g⟩ p e w):GO P ops Q S n k i ⟨dst, .fieldAddr t x f,ty,pos,an,g⟩ p e w:=h
theorem P7 [Fr]{t:TypeId}{x y:Operand}(h:GO P ops Q S n k i ⟨dst, .indexAddr t x y,ty,pos,an,g⟩ p e w):GO P ops Q S n k i ⟨dst, .indexAddr t x y,ty,pos,an,g⟩ p e w:=h
theorem GD [Fr]{x:Operand}{j:Nat}(h:GO P ops Q S n k i ⟨dst, .extract x j,ty,pos,an,g⟩ p e w):GO P ops Q S n k i ⟨dst, .extract x j,ty,pos,an,g⟩ p e w:=h
theorem GL [Fr]{u:UnOp}{t:TypeId}{x:Operand}(h:GO P ops Q S n k i ⟨dst, .unOp u t x,ty,pos,an,g⟩ p e w):GO P ops Q S n k i ⟨dst, .unOp u t x,ty,pos,an,g⟩ p e w:=h
theorem Gz [Fr]{b:Builtin}{args:Array Operand}{ts:Array TypeId}(h:GO P ops Q S n k i ⟨dst, .call ⟨.builtin b,args,ts⟩,ty,pos,an,g⟩ p e w):GO P ops Q S n k i ⟨dst, .call ⟨.builtin b,args,ts⟩,ty,pos,an,g⟩ p e w:=h
theorem GA [Fr]{t:TypeId}{ps:Array (Nat×Operand)}(h:GO P ops Q S n k i ⟨dst, .build t ps,ty,pos,an,g⟩ p e w):GO P ops Q S n k i ⟨dst, .build t ps,ty,pos,an,g⟩ p e w:=h
theorem GH [Fr]{f:Fn}{ps qs:Array Operand}(h:GO P ops Q S n k i ⟨dst, .makeFunc f ps qs,ty,pos,an,g⟩ p e w):GO P ops Q S n k i ⟨dst, .makeFunc f ps qs,ty,pos,an,g⟩ p e w:=h
structure fS (q:Prop):Prop where
 out:q
theorem Gi {p q:Prop}[Decidable p][Decidable q](h:p↔q):Value.bool (decide p)=Value.bool (decide q):=congrArg _ (vw.2 h)
theorem xr {q:Prop}[Decidable q](h:¬q):Value.bool false=Value.bool (decide q):=congrArg _ (bQ h).symm
theorem go {p q:Prop}(k:q)(h:fS q→p:=by
 intro h
 repeat(first
  |(refine GX.next rfl ?_
    first
    |(refine xK ?_
      refine GO.skip (.inr rfl) rfl rfl ?_)
    |(refine GI ?_
      refine GO.move rfl rfl rfl rfl ?_)
    |(refine GF ?_
      refine GO.fieldAddr rfl rfl rfl rfl rfl ?_)
    |(refine Di ?_
      first
      |refine GO.NT rfl rfl rfl (by assumption) (by rfl) ?_
      |refine GO.Jn rfl rfl rfl (by assumption) (by rfl) (by rfl) ?_
      |refine GO.l6 rfl rfl rfl (by assumption) ?_
      |refine GO.Vz rfl rfl rfl (by assumption) (by rfl) ?_)
    |(refine GJ ?_
      first
      |refine GO.nilCheck rfl rfl rfl rfl ?_
      |refine GO.JA rfl rfl rfl rfl ?_)
    |(refine Gy ?_
      refine GO.assign rfl rfl rfl rfl ?_)
    |(refine eW ?_
      first
      |(refine eW (bo := .eql) ?_;first|refine GO.eql rfl rfl rfl rfl rfl ?_|refine Kj _ _ rfl rfl rfl rfl rfl ?_|refine GO.JR rfl rfl rfl rfl rfl ?_|refine GO.J' rfl rfl rfl rfl rfl ?_|refine GO.GU rfl rfl rfl rfl rfl ?_)
      |(refine eW (bo := .neq) ?_;first|refine GO.neq rfl rfl rfl rfl rfl ?_|refine Km _ _ rfl rfl rfl rfl rfl ?_|refine GO.JS rfl rfl rfl rfl rfl ?_|refine GO.Ka rfl rfl rfl rfl rfl ?_|refine GO.GV rfl rfl rfl rfl rfl ?_)
      |(refine eW (bo := .lss) ?_;first|refine GO.lss rfl rfl rfl rfl rfl ?_|refine Kl _ _ rfl rfl rfl rfl rfl ?_)
      |(refine eW (bo := .gtr) ?_;refine GO.gtr rfl rfl rfl rfl rfl ?_)
      |(refine eW (bo := .leq) ?_;refine GO.leq rfl rfl rfl rfl rfl ?_)
      |(refine eW (bo := .geq) ?_;refine GO.geq rfl rfl rfl rfl rfl ?_)
      |(refine eW (bo := .add) ?_;refine GO.add rfl rfl rfl rfl rfl (lf (by dsimp only[lj];omega)) ?_)
      |(refine eW (bo := .sub) ?_;refine GO.sub rfl rfl rfl rfl rfl (lf (by dsimp only[lj];omega)) ?_))
    |(refine Gz ?_
      first
      |refine GO.Jo rfl rfl rfl rfl ?_
      |refine Kk _ rfl rfl rfl rfl ?_
      |refine GO.max2 rfl rfl rfl rfl rfl rfl ?_
      |refine GO.min2 rfl rfl rfl rfl rfl rfl ?_)
    |(refine GD ?_
      refine GO.extract rfl rfl rfl rfl rfl ?_)
    |(refine GL ?_
      refine GO.not rfl rfl rfl rfl ?_)
    |(refine GK ?_
      first
      |refine GO.JO rfl rfl rfl rfl rfl ?_
      |refine GO.JN rfl rfl rfl rfl rfl ?_)
    |(refine GB ?_
      first
      |refine GO.conv rfl rfl rfl rfl (lf (by dsimp only[lj];omega)) ?_
      |refine GO.He rfl rfl rfl rfl ?_)
    |(refine GG ?_
      first
      |refine GO.Ht rfl rfl rfl rfl rfl ?_
      |refine GO.Hv rfl rfl rfl rfl rfl ?_)
    |(refine GA ?_
      refine GO.KY rfl rfl rfl rfl rfl rfl ?_)
    |(refine GH ?_
      refine GO.makeFunc rfl rfl rfl rfl rfl ?_)
    |refine GO.entry rfl rfl rfl (by assumption) ?_)
  |refine GX.stop ?_
  |refine GC.seq ?_
  |refine GC.WZ rfl ?_
  |refine GQ.Br ?_
  |refine GC.ret ?_
  |refine GC.skip ?_
  |refine GC.block ?_
  |refine GC.exit ?_
  |refine GC.Bl rfl ?_
  |refine GC.QQ rfl ?_
  |refine GX.Q0 ?_
  |refine GX.done ?_
  |refine GQ.Ru ?_
  |refine GQ.Rv ?_
  |refine GQ.Ua ?_
  |refine GQ.T8 ?_
  |refine GQ.T9 rfl ?_
  |refine GQ.Uc ?_
  |refine GQ.VK ?_
  |refine GQ.VL ?_
  |refine GQ.QX ?_
  |refine GQ.QY ?_
  |(refine GX.pure rfl ?_
    first
    |(refine xK ?_
      refine GO.skip (.inl rfl) rfl rfl ?_)
    |(refine GI ?_
      refine GO.move rfl rfl rfl rfl ?_)
    |(refine GF ?_
      refine GO.fieldAddr rfl rfl rfl rfl rfl ?_)
    |(refine GJ ?_
      first
      |refine GO.nilCheck rfl rfl rfl rfl ?_
      |refine GO.JA rfl rfl rfl rfl ?_)
    |(refine Gy ?_
      refine GO.assign rfl rfl rfl rfl ?_)
    |(refine eW ?_
      first
      |(refine eW (bo := .eql) ?_;first|refine GO.eql rfl rfl rfl rfl rfl ?_|refine Kj _ _ rfl rfl rfl rfl rfl ?_|refine GO.JR rfl rfl rfl rfl rfl ?_|refine GO.J' rfl rfl rfl rfl rfl ?_|refine GO.GU rfl rfl rfl rfl rfl ?_)
      |(refine eW (bo := .neq) ?_;first|refine GO.neq rfl rfl rfl rfl rfl ?_|refine Km _ _ rfl rfl rfl rfl rfl ?_|refine GO.JS rfl rfl rfl rfl rfl ?_|refine GO.Ka rfl rfl rfl rfl rfl ?_|refine GO.GV rfl rfl rfl rfl rfl ?_)
      |(refine eW (bo := .lss) ?_;first|refine GO.lss rfl rfl rfl rfl rfl ?_|refine Kl _ _ rfl rfl rfl rfl rfl ?_)
      |(refine eW (bo := .gtr) ?_;refine GO.gtr rfl rfl rfl rfl rfl ?_)
      |(refine eW (bo := .leq) ?_;refine GO.leq rfl rfl rfl rfl rfl ?_)
      |(refine eW (bo := .geq) ?_;refine GO.geq rfl rfl rfl rfl rfl ?_)
      |(refine eW (bo := .add) ?_;refine GO.add rfl rfl rfl rfl rfl (lf (by dsimp only[lj];omega)) ?_)
      |(refine eW (bo := .sub) ?_;refine GO.sub rfl rfl rfl rfl rfl (lf (by dsimp only[lj];omega)) ?_))
    |(refine Gz ?_
      first
      |refine GO.Jo rfl rfl rfl rfl ?_
      |refine Kk _ rfl rfl rfl rfl ?_
      |refine GO.max2 rfl rfl rfl rfl rfl rfl ?_
      |refine GO.min2 rfl rfl rfl rfl rfl rfl ?_)
    |(refine GD ?_
      refine GO.extract rfl rfl rfl rfl rfl ?_)
    |(refine GL ?_
      refine GO.not rfl rfl rfl rfl ?_)
    |(refine GK ?_
      first
      |refine GO.JO rfl rfl rfl rfl rfl ?_
      |refine GO.JN rfl rfl rfl rfl rfl ?_)
    |(refine GB ?_
      first
      |refine GO.conv rfl rfl rfl rfl (lf (by dsimp only[lj];omega)) ?_
      |refine GO.He rfl rfl rfl rfl ?_)
    |(refine GG ?_
      first
      |refine GO.Ht rfl rfl rfl rfl rfl ?_
      |refine GO.Hv rfl rfl rfl rfl rfl ?_)
    |(refine GA ?_
      refine GO.KY rfl rfl rfl rfl rfl rfl ?_)
    |(refine GH ?_
      refine GO.makeFunc rfl rfl rfl rfl rfl ?_))
  |(refine GX.read rfl ?_
    first
    |(refine xK ?_
      refine GO.XH (by first|exact Ext.drew _|exact Ext.mod (Ext.drew _)|assumption) rfl rfl ?_)
    |(refine Di ?_
      first
      |refine GO.su rfl rfl rfl (by assumption) (by first|exact id|assumption) (by first|exact Ext.drew _|exact Ext.mod (Ext.drew _)|assumption) (by rfl) ?_
      |refine GO.VA rfl rfl rfl (by assumption) (by first|exact id|assumption) (by first|exact Ext.drew _|exact Ext.mod (Ext.drew _)|assumption) (by rfl) (by rfl) ?_))
  |(refine GX.aw rfl ?_;refine xK ?_;refine GO.skip (.inr rfl) rfl rfl ?_)
  |refine GQ.r1 rfl rfl ?_
  |refine GQ.r0 rfl ?_
  |refine GQ.WO rfl ?_
  |refine GQ.r2 rfl rfl rfl ?_
  |refine GQ.r3 rfl rfl rfl rfl ?_)
 exact fS.out h):p:=h ⟨k⟩
theorem dq {p c1 c2 p1 p2:Prop}(k1:c1→p1)(k2:c2→p2)(h:fS (c1→p1)→fS (c2→p2)→p:=by
 intro h1 h2
 first
  |exact GC.QP rfl (fS.out h1) (fS.out h2)
  |exact GC.QR rfl (fS.out h1) (fS.out h2)
  |exact GX.Qn rfl rfl rfl rfl rfl (fS.out h1) (fS.out h2)
  |exact GX.Qp rfl rfl rfl rfl rfl (fS.out h1) (fS.out h2)
  |exact GX.Qo rfl rfl rfl rfl rfl (fS.out h1) (fS.out h2)
  |exact GX.Qq rfl rfl rfl rfl rfl (fS.out h1) (fS.out h2)):p:=h ⟨k1⟩ ⟨k2⟩
end
end Go.Proofs.YtoloaehmppcjoaaGreat.V.M
