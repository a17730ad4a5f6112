/-
  Parts of the proof. No condition.
-/
import Derived.Test.YtoloaehmppcjoaaGreatW2ac
import Derived.Test.YtoloaehmppcjoaaGreatW2ad
set_option linter.unusedVariables false
set_option linter.unusedSimpArgs false
set_option maxRecDepth 8000
set_option maxHeartbeats 8000000
namespace Go.Proofs.YtoloaehmppcjoaaGreat.V
section
variable {P:Program}{ops:Array Oper}{Q:Exit→Act→World→Prop}{S:World→Prop}{n:Nat}
variable {i:Nat}{p:b6}{e:Env}{w:World}{k:Kd}{dst:Option Tmp}{ty:TypeId}{pos:String}{an:Array Edge}{g:Option (Nat×Bool)}
theorem GO.GW [Fr]{t:TypeId}{el:TypeId}{sz aT:Nat}[hf:cr P t el sz aT]
  (hw:aI ops e ⟨dst, .buildSlice t 0 #[],ty,pos,an,g⟩=some true) (hd:fits n dst=true)
  (h:∀b w',b=w.heap.size→aH w' el sz (some b) (some ⟨b,0,none⟩) 0 0 []→Ext w w'→(gS ops i=false→S w→S w')∧GX P ops Q S n p (e.put dst (.slice (some ⟨b,0,none⟩) 0 0)) w'):GO P ops Q S n .aw i ⟨dst, .buildSlice t 0 #[],ty,pos,an,g⟩ p e w:=by
 refine GO.run (R:=fun u w'=>u = .slice (some ⟨w.heap.size,0,none⟩) 0 0∧aH w' el sz (some w.heap.size) (some ⟨w.heap.size,0,none⟩) 0 0 []∧Ext w w') hw hd (fun a ha=>?_) (by rintro _ w' ⟨rfl,h1,h2⟩;exact h _ w' rfl h1 h2);obtain⟨hu,ii,z,hi,hz,hs,_,iR⟩:=hf.facts;refine⟨_,_,w.alloc (.cells #[] el),?_, .inl rfl,rfl,?_,Ext.alloc _ _⟩
 ·have h0:¬((0:Nat) > 2^24):=by omega
  simp only[execOp,Sem.run_bind,Instr.buildSlice,run_underlying hu,Result.andThen_ok,Go.sizeOf,typeInfo,run_program,hi,Sem.run_pure,if_neg h0,vB,if_true];simp[Instr.fill,newRow,Array.range_zero']
 ·exact aH.new ⟨by simp, .inr ⟨w.heap.size,0,#[],rfl,bh _,heap_alloc_new w _,aY _,bh _,by simp,by simp⟩⟩
theorem Xf (d:Nat){t el:TypeId}(hu:P.underlying t=some (.slice el))(a:Option Addr)(n c:Nat)(w:World):(Op.equalIn (d+1) t (.slice a n c) (.slice none 0 0)).run P w = .ok a.isNone w:=by
 cases a<;>simp[Op.equalIn,run_underlying hu]
theorem ajg {t el:TypeId}(hu:P.underlying t=some (.slice el))(a:Option Addr)(n c:Nat)(w:World):(binOp .eql t (.slice a n c) (.slice none 0 0)).run P w = .ok (.bool a.isNone) w:=by
 have h:=Xf (P:=P) 9999 hu a n c w;simp only[binOp,Op.equal,Op.maxDepth,Sem.run_bind,h,Result.andThen_ok];rfl
theorem ajh {t el:TypeId}(hu:P.underlying t=some (.slice el))(a:Option Addr)(n c:Nat)(w:World):(binOp .neq t (.slice a n c) (.slice none 0 0)).run P w = .ok (.bool a.isSome) w:=by
 have h:=Xf (P:=P) 9999 hu a n c w;simp only[binOp,Op.equal,Op.maxDepth,Sem.run_bind,h,Result.andThen_ok];cases a<;>rfl
theorem GO.J' [Fr]{k:Kd}(hk:cC k=true){t t2 el:TypeId}[hu:bI P t (.slice el)]{x y:Operand}{a:Option Addr}{m c:Nat}(hw:aI ops e ⟨dst, .binOp .eql t x y t2,ty,pos,an,g⟩=some true)(hx:ev e x=some (.slice a m c))(hy:ev e y=some (.slice none 0 0))(hd:fits n dst=true)
  (h:GX P ops Q S n p (e.put dst (.bool a.isNone)) w):GO P ops Q S n k i ⟨dst, .binOp .eql t x y t2,ty,pos,an,g⟩ p e w:=
 GO.bin hk hw hx hy hd (fun w=>rfl) (fun w=>ajg hu.out a m c w) h
theorem GO.Ka [Fr]{k:Kd}(hk:cC k=true){t t2 el:TypeId}[hu:bI P t (.slice el)]{x y:Operand}{a:Option Addr}{m c:Nat}(hw:aI ops e ⟨dst, .binOp .neq t x y t2,ty,pos,an,g⟩=some true)(hx:ev e x=some (.slice a m c))(hy:ev e y=some (.slice none 0 0))(hd:fits n dst=true)
  (h:GX P ops Q S n p (e.put dst (.bool a.isSome)) w):GO P ops Q S n k i ⟨dst, .binOp .neq t x y t2,ty,pos,an,g⟩ p e w:=
 GO.bin hk hw hx hy hd (fun w=>rfl) (fun w=>ajh hu.out a m c w) h
end
theorem bN.bytes {w:World}{a:Option Addr}{l:List UInt8}(h:bN w a (zk l))(lo m k:Nat)(hm:m=lo→k=0):bN w (fi a lo m 1) (zk ((l.drop lo).take k)):=by
 have:=h.sliced lo m 1 k hm;simpa[zk,List.map_take,List.map_drop] using this
def lj:IntKind→Int→Prop
 |.i8,n=>-128≤n∧n≤127
 |.i16,n=>-32768≤n∧n≤32767
 |.i32,n=>-2147483648≤n∧n≤2147483647
 |.i64,n=>-9223372036854775808≤n∧n≤9223372036854775807
 |.u8,n=>0≤n∧n≤255
 |.u16,n=>0≤n∧n≤65535
 |.u32,n=>0≤n∧n≤4294967295
 |.u64,n=>0≤n∧n≤18446744073709551615
theorem lf {k:IntKind}{n:Int}(h:lj k n):k.wrap n=n:=by
 cases k
 ·exact IntWalk.i8_in n h
 ·exact IntWalk.i16_in n h
 ·exact IntWalk.i32_in n h
 ·exact IntWalk.i64_in n h
 ·exact IntWalk.u8_in n h
 ·exact IntWalk.u16_in n h
 ·exact IntWalk.u32_in n h
 ·exact IntWalk.u64_in n h
theorem Ky (n:Int):IntKind.u64.wrap n=n % 18446744073709551616:=by simp[IntKind.wrap,IntKind.bits,IntKind.signed]
def eu:Nat:=18446744073709551616
theorem XE (x j m:Nat)(hm:m=j):IntKind.u64.wrap ((x:Int)*2^m)=((x*2^j % 18446744073709551616:Nat):Int):=by
 subst hm;have h:((x*2^m % eu:Nat):Int)=((x:Int)*2^m) % (eu:Int):=by
  rw[Int.natCast_emod,Int.natCast_mul,Int.natCast_pow];rfl
 rw[Ky];exact h.symm
theorem O2 {P:Program}{w:World}(k:IntKind)(hs:k.signed=false)(t:TypeId)(a b:Nat)(ha:a<2^k.bits)(hb:b<2^k.bits) :
  (binOp .xor t (.int k a) (.int k b)).run P w = .ok (.int k (a ^^^ b:Nat)) w:=by
 have aN:a ^^^ b<2^k.bits:=Nat.xor_lt_two_pow ha hb;have hw:k.wrap ((a ^^^ b:Nat):Int)=((a ^^^ b:Nat):Int):=by
  have h1:((a ^^^ b:Nat):Int) % (2^k.bits:Int)=((a ^^^ b:Nat):Int):=Int.emod_eq_of_lt ah (by exact_mod_cast aN);simp only[IntKind.wrap,hs,Bool.false_and,h1];rfl
 have hx:(BitVec.ofInt k.bits (a:Int) ^^^ BitVec.ofInt k.bits (b:Int)).toNat=a ^^^ b:=by
  simp[rB ha,rB hb]
 simp only[binOp,Op.intBits,ne_eq,not_true_eq_false,if_false,hx,hw];rfl
theorem aiX {P:Program}{w:World}(k:IntKind)(hs:k.signed=false)(t:TypeId)(a b:Nat)(ha:a<2^k.bits)(hb:b<2^k.bits) :
  (binOp .and t (.int k a) (.int k b)).run P w = .ok (.int k (a &&& b:Nat)) w:=by
 have aN:a &&& b<2^k.bits:=Nat.and_lt_two_pow a hb;have hw:k.wrap ((a &&& b:Nat):Int)=((a &&& b:Nat):Int):=by
  have h1:((a &&& b:Nat):Int) % (2^k.bits:Int)=((a &&& b:Nat):Int):=Int.emod_eq_of_lt ah (by exact_mod_cast aN);simp only[IntKind.wrap,hs,Bool.false_and,h1];rfl
 have hx:(BitVec.ofInt k.bits (a:Int) &&& BitVec.ofInt k.bits (b:Int)).toNat=a &&& b:=by
  simp[rB ha,rB hb]
 simp only[binOp,Op.intBits,ne_eq,not_true_eq_false,if_false,hx,hw];rfl
theorem cE.get {w:World}{b:Nat}{l:List Value}(h:cE w b l){o:Nat}{l':List Value}(hl:l.drop o=l'):At w b o l':=by
 subst hl;intro i v hv;have:=h.at (o+i) v (by simpa using hv);simpa using this
theorem At.get {w:World}{b o:Nat}{l:List Value}(h:At w b o l){k:Nat}{l':List Value}(hl:l.drop k=l'):At w b (o+k) l':=by
 subst hl;exact h.sub k _ fun i v hv=>by simpa using hv
theorem At.one {w:World}{b o:Nat}{l:List Value}(h:At w b o l){k:Nat}{v:Value}(hl:l[k]?=some v):At w b (o+k) [v]:=fun i u hu=>by
 cases i with
 |zero=>simp at hu;subst hu;simpa using h k v hl
 |succ i=>cases hu
end Go.Proofs.YtoloaehmppcjoaaGreat.V
namespace Go.Proofs.YtoloaehmppcjoaaGreat.V.M
attribute [local irreducible] GO GX
section
variable {P:Program}{ops:Array Oper}{Q:Exit→Act→World→Prop}{S:World→Prop}{n:Nat}
variable {i:Nat}{p:b6}{e:Env}{w:World}{k:Kd}{dst:Option Tmp}{ty:TypeId}{pos:String}{an:Array Edge}{g:Option (Nat×Bool)}
def bc:Nat→Nat→b6
 |_,0 => .done
 |i,m+1 => .aw i (bc (i+1) m)
theorem WH:∀(m i:Nat),yM (bc i m)=some (List.range' i m)
 |0,_=>rfl
 |m+1,i=>by simp[bc,yM,WH m (i+1),List.range'_succ]
theorem GC.WZ [Fr]{id:Nat}{ops:Array Oper}{m:Nat}(hm:ops.size=m)(h:GX P ops Q (fun _=>True) n (bc 0 m) e w):GC P (.region id ops false) Q n e w:=by
 subst hm;exact GC.region (bc 0 ops.size) (by rw[WH,List.range_eq_range']) h
theorem GX.next [Fr]{m:Nat}{o:Oper}(ho:ops[i]?=some o)(h:GO P ops Q S n .aw i o (bc (i+1) m) e w):GX P ops Q S n (bc i (m+1)) e w:=GX.aw ho h
theorem GX.stop [Fr](h:GQ Q .normal n e w):GX P ops Q S n (bc i 0) e w:=GX.done h
theorem GC.Bl [Fr]{c:Operand}{x y:Code}(hc:ev e c=some (.bool true))(h:GC P x Q n e w):GC P (.cond c x y) Q n e w:=GC.cond hc (fun _=>h) fun h=>by cases h
theorem GC.QQ [Fr]{c:Operand}{x y:Code}(hc:ev e c=some (.bool false))(h:GC P y Q n e w):GC P (.cond c x y) Q n e w:=GC.cond hc (fun h=>by cases h) fun _=>h
theorem GC.QP [Fr]{c:Operand}{x y:Code}{p:Prop}[Decidable p](hc:ev e c=some (.bool (decide p)))(h1:p→GC P x Q n e w)(h2:¬p→GC P y Q n e w):GC P (.cond c x y) Q n e w:=
 GC.cond hc (fun h=>h1 (dM h)) fun h=>h2 (xy h)
theorem GC.QR [Fr]{c:Operand}{x y:Code}{p:Prop}[Decidable p](hc:ev e c=some (.bool (!decide p)))(h1:¬p→GC P x Q n e w)(h2:p→GC P y Q n e w):GC P (.cond c x y) Q n e w:=
 GC.cond hc (fun h=>h1 (by simpa using h)) fun h=>h2 (by simpa using h)
theorem GX.Qn [Fr]{m:Nat}{o oj:Oper}{j t:Nat}{want:Bool}{p:Prop}[Decidable p](ho:ops[i]?=some o)(hg:o.guard=some (j,want))(hj:ops[j]?=some oj)(ht:oj.dst=some t)(hl:look t e=some (.bool (decide p)))
  (h1:p→GX P ops Q S n (bc i m) ((t, .bool true)::e) w) (h2:¬p→GX P ops Q S n (bc i m) ((t, .bool false)::e) w):GX P ops Q S n (bc i m) e w:=
 GX.case t hl (fun h=>h1 (dM h)) fun h=>h2 (xy h)
theorem GX.Qp [Fr]{m:Nat}{o oj:Oper}{j t:Nat}{want:Bool}{p:Prop}[Decidable p](ho:ops[i]?=some o)(hg:o.guard=some (j,want))(hj:ops[j]?=some oj)(ht:oj.dst=some t)(hl:look t e=some (.bool (!decide p)))
  (h1:¬p→GX P ops Q S n (bc i m) ((t, .bool true)::e) w) (h2:p→GX P ops Q S n (bc i m) ((t, .bool false)::e) w):GX P ops Q S n (bc i m) e w:=
 GX.case t hl (fun h=>h1 (by simpa using h)) fun h=>h2 (by simpa using h)
theorem GX.call [Fr]{m:Nat}{x:Operand}{args:Array Operand}{ts:Array TypeId}{f:FuncId}{fs cs:Array Value}{vs:List Value}{R:Value→World→Prop}{al:List Value}(hc:aj P f al.toArray w R)
  (ho:ops[i]?=some ⟨dst, .call ⟨.value x,args,ts⟩,ty,pos,an,g⟩) (hw:aI ops e ⟨dst, .call ⟨.value x,args,ts⟩,ty,pos,an,g⟩=some true) (hx:ev e x=some (.func (.func f) fs cs)) (hy:kO e args.toList=some vs) (hd:fits n dst=true)
  (cj:fs.toList++vs++cs.toList=al) [hf:ax P f]
  (h:∀v w',R v w'→GX P ops Q (fun _=>True) n (bc (i+1) m) (e.put dst v) w'):GX P ops Q (fun _=>True) n (bc i (m+1)) e w:=
 GX.aw ho (GO.rL hw hx hy hd cj hc fun v w' hR=>⟨fun _ _=>trivial,h v w' hR⟩)
theorem GX.store [Fr]{m:Nat}{t:TypeId}{agg:Bool}{sz:Nat}[hf:aC P t agg sz]{x y:Operand}{b o:Nat}{v:Value}{vs l l':List Value}(hB:cE w b l)
  (ho:ops[i]?=some ⟨none, .store t x y,ty,pos,an,g⟩) (hw:aI ops e ⟨none, .store t x y,ty,pos,an,g⟩=some true) (hx:ev e x=some (.pointer (some ⟨b,o,none⟩))) (hy:ev e y=some v)
  (hv:v.cells.toList=vs) (hl:vs.length=sz) (hlen:Nat.ble (o+sz) l.length=true) (h1:∀u∈vs,u.oneCell'=true) (hl':l.take o++vs++l.drop (o+vs.length)=l')
  (h:∀w',cE w' b l'→Mod (· = b) w w'→GX P ops Q (fun _=>True) n (bc (i+1) m) e w'):GX P ops Q (fun _=>True) n (bc i (m+1)) e w:=
 GX.aw ho (GO.store (hB.wr (vq hlen)) hv hl h1 hw hx hy fun w' hp=>⟨fun _ _=>trivial,h w' (hl'▸hp.kK hB) hp.mod⟩)
theorem GX.box [Fr]{m:Nat}{t:TypeId}{x:Operand}{v:Value}{l:List Value}
  (ho:ops[i]?=some ⟨dst, .box t x,ty,pos,an,g⟩) (hw:aI ops e ⟨dst, .box t x,ty,pos,an,g⟩=some true) (hx:ev e x=some v) (hd:fits n dst=true) (hv:v.cells.toList=l)
  (h:∀b w',b=w.heap.size→cE w' b l→Ext w w'→GX P ops Q (fun _=>True) n (bc (i+1) m) (e.put dst (.pointer (some ⟨b,0,none⟩))) w'):GX P ops Q (fun _=>True) n (bc i (m+1)) e w:=
 GX.aw ho (GO.box hv hw hx hd fun b w' h1 h2 h3=>⟨fun _ _=>trivial,h b w' h1 h2 h3⟩)
theorem GX.alloc [Fr]{m:Nat}{t:TypeId}{l:List Value}[hz:ff P t l]
  (ho:ops[i]?=some ⟨dst, .alloc t,ty,pos,an,g⟩) (hw:aI ops e ⟨dst, .alloc t,ty,pos,an,g⟩=some true) (hd:fits n dst=true)
  (h:∀b w',b=w.heap.size→cE w' b l→Ext w w'→GX P ops Q (fun _=>True) n (bc (i+1) m) (e.put dst (.pointer (some ⟨b,0,none⟩))) w'):GX P ops Q (fun _=>True) n (bc i (m+1)) e w:=
 GX.aw ho (GO.alloc hw hd fun b w' h1 h2 h3=>⟨fun _ _=>trivial,h b w' h1 h2 h3⟩)
theorem GX.buildSlice [Fr]{m:Nat}{t:TypeId}{len:Nat}{parts:Array (Nat×Operand)}{vs:List (Nat×Value)}{pl:List (Nat×List Value)}{out:List Value}{el:TypeId}{sz aT:Nat}
  (ho:ops[i]?=some ⟨dst, .buildSlice t len parts,ty,pos,an,g⟩) [hf:cr P t el sz aT] (hw:aI ops e ⟨dst, .buildSlice t len parts,ty,pos,an,g⟩=some true)
  (hx:parts.toList.mapM (fun x=>(ev e x.2).map fun v=>(x.1,v))=some vs) (hp:vs.map (fun x=>(x.1,x.2.cells.toList))=pl) (hb:xh P t len pl=some out) (j8:Nat.ble (len*aT) 140737488355328=true∧Nat.ble len 140737488355328=true) (hlen:out.length=len*sz) (hd:fits n dst=true)
  (h:∀b w',b=w.heap.size→aH w' el sz (some b) (some ⟨b,0,none⟩) len len out→Ext w w'→GX P ops Q (fun _=>True) n (bc (i+1) m) (e.put dst (.slice (some ⟨b,0,none⟩) len len)) w'):GX P ops Q (fun _=>True) n (bc i (m+1)) e w:=
 GX.aw ho (GO.buildSlice hb ⟨vq j8.1,by have:=vq j8.2;simp only[maxLen];omega⟩ hw hx hp hlen hd fun b w' h1 h2 h3=>⟨fun _ _=>trivial,h b w' h1 h2 h3⟩)
theorem GX.GW [Fr]{m:Nat}{t:TypeId}{el:TypeId}{sz aT:Nat}
  (ho:ops[i]?=some ⟨dst, .buildSlice t 0 #[],ty,pos,an,g⟩) [hf:cr P t el sz aT] (hw:aI ops e ⟨dst, .buildSlice t 0 #[],ty,pos,an,g⟩=some true) (hd:fits n dst=true)
  (h:∀b w',b=w.heap.size→aH w' el sz (some b) (some ⟨b,0,none⟩) 0 0 []→Ext w w'→GX P ops Q (fun _=>True) n (bc (i+1) m) (e.put dst (.slice (some ⟨b,0,none⟩) 0 0)) w'):GX P ops Q (fun _=>True) n (bc i (m+1)) e w:=
 GX.aw ho (GO.GW hw hd fun b w' h1 h2 h3=>⟨fun _ _=>trivial,h b w' h1 h2 h3⟩)
theorem GX.makeSlice [Fr]{m:Nat}{t:TypeId}{x y:Operand}{k1 k2:IntKind}{l c:Int}{el:TypeId}{sz aT:Nat}{zl:List Value}
  (ho:ops[i]?=some ⟨dst, .makeSlice t x y,ty,pos,an,g⟩) [hf:cr P t el sz aT] (pc:xA P el=some zl) (hw:aI ops e ⟨dst, .makeSlice t x y,ty,pos,an,g⟩=some true) (hx:ev e x=some (.int k1 l)) (hy:ev e y=some (.int k2 c)) (hd:fits n dst=true)
  (h0:0≤l) (BN:l≤c) (hb:(aT:Int)*c≤281474976710656) (zz:c≤4611686018427387904)
  (h:∀b w',b=w.heap.size→aH w' el sz (some b) (some ⟨b,0,none⟩) l.toNat c.toNat ((List.replicate l.toNat zl).flatten)→Ext w w'→GX P ops Q (fun _=>True) n (bc (i+1) m) (e.put dst (.slice (some ⟨b,0,none⟩) l.toNat c.toNat)) w'):GX P ops Q (fun _=>True) n (bc i (m+1)) e w:=
 GX.aw ho (GO.makeSlice pc hw hx hy h0 BN hb zz hd fun b w' h1 h2 h3=>⟨fun _ _=>trivial,h b w' h1 h2 h3⟩)
theorem GX.append [Fr]{m:Nat}{x y:Operand}{t el:TypeId}{sz aT:Nat}{ob:Option Nat}{a a2:Option Addr}{len cap m2 c2:Nat}{cs news:List Value}(hO:aH w el sz ob a len cap cs)(hN:bN w a2 news)
  (ho:ops[i]?=some ⟨dst, .call ⟨.builtin .append,#[x,y],#[t,t]⟩,ty,pos,an,g⟩) [hf:cr P t el sz aT] (hw:aI ops e ⟨dst, .call ⟨.builtin .append,#[x,y],#[t,t]⟩,ty,pos,an,g⟩=some true) (hx:ev e x=some (.slice a len cap)) (hy:ev e y=some (.slice a2 m2 c2)) (hd:fits n dst=true)
  (hz:Nat.blt 0 sz=true) (hnl:news.length=m2*sz) (h1:∀u∈news,u.oneCell'=true) (hb:(len+m2)*aT≤140737488355328) (hm:len+m2≤140737488355328)
  (h:∀cQ a' c' w',aH w' el sz cQ a' (len+m2) c' (cs++news)→Mod (fun k=>some k=ob) w w'→(∀x,cQ=some x→ob=some x∨w.heap.size≤x)→(∀x,a'=some x→cQ=some x.block∨(a=some x∧cQ=ob)) →
    GX P ops Q (fun _=>True) n (bc (i+1) m) (e.put dst (.slice a' (len+m2) c')) w'):GX P ops Q (fun _=>True) n (bc i (m+1)) e w:=
 GX.aw ho (GO.append hO hN hnl h1 hb hm hz hw hx hy hd fun cQ a' c' w' q1 q2 q3 q4=>⟨fun _ _=>trivial,h cQ a' c' w' q1 q2 q3 q4⟩)
theorem GX.lD [Fr]{m:Nat}{t:TypeId}{x:Operand}{b o:Nat}{v:Value}{l:List Value}(hA:At w b o (v::l))(ho:ops[i]?=some ⟨dst, .load t x,ty,pos,an,g⟩)[hf:aC P t false 1](hw:aI ops e ⟨dst, .load t x,ty,pos,an,g⟩=some true)(hx:ev e x=some (.pointer (some ⟨b,o,none⟩)))(hd:fits n dst=true)
 (h:GX P ops Q S n (bc (i+1) m) (e.put dst v) w):GX P ops Q S n (bc i (m+1)) e w:=GX.aw ho (GO.lD hA hw hx hd h)
theorem GO.NT [Fr]{t:TypeId}[hf:aC P t false 1]{x:Operand}{b o:Nat}{v:Value}{l l':List Value}(hw:aI ops e ⟨dst, .load t x,ty,pos,an,g⟩=some true)(hx:ev e x=some (.pointer (some ⟨b,o,none⟩)))(hd:fits n dst=true)
 (hB:cE w b l) (hv:l.drop o=v::l') (h:GX P ops Q S n p (e.put dst v) w):GO P ops Q S n .aw i ⟨dst, .load t x,ty,pos,an,g⟩ p e w:=GO.lD (hB.get hv) hw hx hd h
theorem GO.Jn [Fr]{t:TypeId}{sz:Nat}[hf:aC P t true sz]{x:Operand}{b o:Nat}{l l':List Value}(hw:aI ops e ⟨dst, .load t x,ty,pos,an,g⟩=some true)(hx:ev e x=some (.pointer (some ⟨b,o,none⟩)))(hd:fits n dst=true)
  (hB:cE w b l) (hl:(l.drop o).take sz=l') (hz:l'.length=sz) (h:GX P ops Q S n p (e.put dst (.agg l'.toArray)) w):GO P ops Q S n .aw i ⟨dst, .load t x,ty,pos,an,g⟩ p e w:=by
 subst hl;have h1:=(hB.get (o:=o) rfl).take 0 sz;rw[qy,List.drop_zero] at h1;exact GO.NY h1 hz hw hx hd h
theorem GO.l6 [Fr]{t:TypeId}[hf:aC P t false 1]{x:Operand}{b o:Nat}{v:Value}{l:List Value}(hw:aI ops e ⟨dst, .load t x,ty,pos,an,g⟩=some true)(hx:ev e x=some (.pointer (some ⟨b,o,none⟩)))(hd:fits n dst=true)
 (hA:At w b o (v::l)) (h:GX P ops Q S n p (e.put dst v) w):GO P ops Q S n .aw i ⟨dst, .load t x,ty,pos,an,g⟩ p e w:=GO.lD hA hw hx hd h
theorem GO.Vz [Fr]{t:TypeId}{sz:Nat}[hf:aC P t true sz]{x:Operand}{b o:Nat}{l:List Value}(hw:aI ops e ⟨dst, .load t x,ty,pos,an,g⟩=some true)(hx:ev e x=some (.pointer (some ⟨b,o,none⟩)))(hd:fits n dst=true)
 (hA:At w b o l) (hl:l.length=sz) (h:GX P ops Q S n p (e.put dst (.agg l.toArray)) w):GO P ops Q S n .aw i ⟨dst, .load t x,ty,pos,an,g⟩ p e w:=GO.NY hA hl hw hx hd h
theorem GQ.r1 {fn:Func}{t:Tmp}{v:Value}{R:Value→World→Prop}(hr:fn.results=#[.tmp t])(hl:look t e=some v)(hR:R v w):GQ (bodyPost P fn (fun en w'=>∃v,en = .returned v∧R v w')) .ret n e w:=GQ.aiH (.inl rfl) hr hl hR
theorem GQ.r0 {fn:Func}{R:Value→World→Prop}(hr:fn.results=#[])(hR:R (.tuple #[]) w):GQ (bodyPost P fn (fun en w'=>∃v,en = .returned v∧R v w')) .ret n e w:=GQ.W1 (.inl rfl) hr hR
theorem GQ.WO {fn:Func}{R:Value→World→Prop}(hr:fn.results=#[])(hR:R (.tuple #[]) w):GQ (bodyPost P fn (fun en w'=>∃v,en = .returned v∧R v w')) .normal n e w:=GQ.W1 (.inr rfl) hr hR
theorem GQ.r2 {fn:Func}{t u:Tmp}{v v':Value}{R:Value→World→Prop}(hr:fn.results=#[.tmp t, .tmp u])(hl:look t e=some v)(hl':look u e=some v')(hR:R (.tuple #[v,v']) w):GQ (bodyPost P fn (fun en w'=>∃v,en = .returned v∧R v w')) .ret n e w:=GQ.aiI (.inl rfl) hr hl hl' hR
theorem GQ.r3 {fn:Func}{t u s:Tmp}{v v' tU:Value}{R:Value→World→Prop}(hr:fn.results=#[.tmp t, .tmp u, .tmp s])(hl:look t e=some v)(hl':look u e=some v')(MM:look s e=some tU)(hR:R (.tuple #[v,v',tU]) w):GQ (bodyPost P fn (fun en w'=>∃v,en = .returned v∧R v w')) .ret n e w:=GQ.aiJ (.inl rfl) hr hl hl' MM hR
def NQ:Env→List Nat
 | []=>[]
 |x::r=>x.1::NQ r
theorem Sub.app {e e1 e2:Env}(h1:Sub e1 e)(h2:Sub e2 e):Sub (e1++e2) e:=by
 intro t v hv;have key:∀(l:Env),look t (l++e2)=(match look t l with|some u=>some u|none=>look t e2):=by
  intro l
  induction l with
  |nil=>rfl
  |cons x l ih=>
   simp only[jK,look];cases hb:Nat.beq x.1 t with
   |true=>rfl
   |false=>exact ih
 rw[key] at hv;cases hl:look t e1 with
 |some u=>rw[hl] at hv;cases hv;exact h1 t _ hl
 |none=>rw[hl] at hv;exact h2 t v hv
theorem GC.bR [Fr]{X:Type}{c:Code}(ks:List Nat)(E:X→Env)(J:X→World→Prop)(μ:X→Nat)(x0:X){e0:Env}(h0:vh e ks=some e0)(hx:vh e (NQ (E x0))=some (E x0))(hJ:J x0 w)
  (round:∀x w,J x w→GC P c (Exit.then (y7 (fun x=>E x++e0) J μ n (μ x)) Q) n (E x++e0) w):GC P (.loop c) Q n e w:=
 GC.loop (fun x=>E x++e0) J μ x0 (Sub.app (cR hx) (cR h0)) hJ round
theorem GQ.bj [Fr]{X:Type}{E:X→Env}{J:X→World→Prop}{μ:X→Nat}{m:Nat}(x:X)(hs:vh e (NQ (E x))=some (E x))(hJ:J x w)(hm:μ x<m):GQ (Exit.then (y7 E J μ n m) Q) .normal n e w:=
 GQ.again x (cR hs) hJ hm
end
end Go.Proofs.YtoloaehmppcjoaaGreat.V.M
