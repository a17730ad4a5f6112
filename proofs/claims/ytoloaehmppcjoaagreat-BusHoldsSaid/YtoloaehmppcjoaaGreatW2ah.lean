/-
  Parts of the proof. No condition.
-/
import Derived.Test.YtoloaehmppcjoaaGreatW2ag
set_option linter.unusedVariables false
set_option linter.unusedSimpArgs false
set_option maxRecDepth 8000
set_option maxHeartbeats 8000000
open Go.Proofs.Tryz
namespace Go.Proofs.YtoloaehmppcjoaaGreat.V.M
section
instance:eD prog 28 [(0,1)] [.slice none 0 0]:=⟨ai⟩
instance:eD prog 31 [(0,1),(1,1)] [.int .i64 0, .string ⟨[].toArray⟩]:=⟨ai⟩
instance:eD prog 41 [(0,1),(1,1),(2,1),(3,1),(4,1),(5,1),(6,1)] [.int .i64 0, .int .i64 0, .int .i64 0, .int .i64 0, .int .i64 0, .int .u64 0, .int .u64 0]:=⟨ai⟩
instance:eD prog 46 [(0,1),(1,1),(2,1),(3,1),(4,1),(5,1)] [.int .i64 0, .int .i64 0, .slice none 0 0, .int .u64 0, .int .i64 0, .slice none 0 0]:=⟨ai⟩
instance:eD prog 50 [(0,1),(1,1),(2,1),(3,1),(4,1),(5,1),(6,1),(7,1),(8,1),(9,1)] [.int .i64 0, .string ⟨[].toArray⟩, .slice none 0 0, .slice none 0 0, .slice none 0 0, .int .u64 0, .int .u64 0, .string ⟨[].toArray⟩, .string ⟨[].toArray⟩, .string ⟨[].toArray⟩]:=⟨ai⟩
instance:eD prog 64 [(0,1),(1,1),(2,1),(3,1)] [.int .i64 0, .slice none 0 0, .int .u64 0, .int .u64 0]:=⟨ai⟩
instance:eD prog 99 [(0,1),(1,1)] [.int .i64 0, .int .i64 0]:=⟨ai⟩
instance:eD prog 104 [(0,1),(1,1),(2,1)] [.pointer none, .int .i64 0, .map none]:=⟨ai⟩
instance:eD prog 121 [(0,7),(7,1),(8,1),(9,1),(10,1),(11,1),(12,1),(13,1),(14,1),(15,16)] [.int .i64 0, .int .i64 0, .int .i64 0, .int .i64 0, .int .i64 0, .int .u64 0, .int .u64 0, .int .u64 0, .int .u64 0, .pointer none, .pointer none, .pointer none, .pointer none, .pointer none, .pointer none, .int .u64 0, .int .u64 0, .int .u64 0, .int .u64 0, .int .u64 0, .int .u64 0, .int .u64 0, .int .u64 0, .int .u64 0, .int .u64 0, .int .u64 0, .int .u64 0, .int .u64 0, .int .u64 0, .int .u64 0, .int .u64 0]:=⟨ai⟩
instance:eD prog 150 [(0,1),(1,1)] [.nilFunc, .int .u8 0]:=⟨ai⟩
instance:eD prog 159 [(0,1),(1,1),(2,1),(3,1),(4,1),(5,1)] [.string ⟨[].toArray⟩, .slice none 0 0, .slice none 0 0, .int .u64 0, .int .u64 0, .int .u64 0]:=⟨ai⟩
instance:eD prog 173 [(0,1),(1,1)] [.slice none 0 0, .int .u64 0]:=⟨ai⟩
instance:eD prog 187 [(0,2),(2,1)] [.int .i64 0, .int .i64 0, .int .u64 0]:=⟨ai⟩
instance:eD prog 191 [(0,1),(1,1),(2,1)] [.pointer none, .int .u64 0, .int .u64 0]:=⟨ai⟩
instance:eD prog 206 [(0,1),(1,1),(2,1),(3,1),(4,1),(5,1),(6,1)] [.pointer none, .pointer none, .pointer none, .pointer none, .pointer none, .slice none 0 0, .slice none 0 0]:=⟨ai⟩
instance:eD prog 213 [(0,1),(1,1),(2,1),(3,1),(4,1),(5,1)] [.pointer none, .int .u64 0, .map none, .map none, .int .i64 0, .int .i64 0]:=⟨ai⟩
instance:eD prog 216 [(0,1),(1,1),(2,1),(3,1)] [.int .u64 0, .int .u64 0, .int .u64 0, .map none]:=⟨ai⟩
instance:eD prog 219 [(0,1),(1,1),(2,1),(3,1),(4,1),(5,1),(6,1)] [.int .i64 0, .int .i64 0, .int .u64 0, .slice none 0 0, .slice none 0 0, .int .i64 0, .int .i64 0]:=⟨ai⟩
instance:eD prog 234 [(0,1),(1,1)] [.int .i64 0, .int .u64 0]:=⟨ai⟩
instance:eD prog 252 [(0,1),(1,1)] [.int .i64 0, .int .i64 0]:=⟨ai⟩
instance:eD prog 256 [(0,1),(1,1)] [.slice none 0 0, .slice none 0 0]:=⟨ai⟩
instance:eD prog 261 [(0,1),(1,1)] [.int .u64 0, .slice none 0 0]:=⟨ai⟩
instance:eD prog 264 [(0,1),(1,1)] [.int .u64 0, .int .u64 0]:=⟨ai⟩
instance:eD prog 269 [(0,1),(1,2),(3,1)] [.string ⟨[].toArray⟩, .slice none 0 0, .slice none 0 0, .int .i64 0]:=⟨ai⟩
instance:eD prog 282 [(0,1),(1,1),(2,1)] [.string ⟨[].toArray⟩, .int .u64 0, .slice none 0 0]:=⟨ai⟩
instance:eD prog 284 [(0,1),(1,1)] [.pointer none, .int .i64 0]:=⟨ai⟩
instance:eD prog 286 [(0,1),(1,1)] [.int .i64 0, .int .i64 0]:=⟨ai⟩
instance:eD prog 288 [(0,2),(2,2)] [.int .i64 0, .int .i64 0, .int .i64 0, .int .i64 0]:=⟨ai⟩
instance:eD prog 290 [(0,1),(1,1),(2,1)] [.int .i64 0, .slice none 0 0, .slice none 0 0]:=⟨ai⟩
instance:eD prog 293 [(0,1),(1,1),(2,1)] [.int .u64 0, .slice none 0 0, .int .i64 0]:=⟨ai⟩
instance:eD prog 295 [(0,1),(1,1)] [.int .i64 0, .int .i64 0]:=⟨ai⟩
instance:eD prog 298 [(0,1)] [.map none]:=⟨ai⟩
instance:eD prog 301 [(0,1),(1,1)] [.slice none 0 0, .map none]:=⟨ai⟩
instance:eD prog 304 [(0,1),(1,1),(2,1),(3,1),(4,1),(5,1)] [.int .i64 0, .int .u64 0, .slice none 0 0, .slice none 0 0, .slice none 0 0, .int .i64 0]:=⟨ai⟩
instance:eD prog 352 [(0,1),(1,1)] [.string ⟨[].toArray⟩, .int .i64 0]:=⟨ai⟩
instance:eD prog 360 [(0,1),(1,1),(2,1)] [.string ⟨[].toArray⟩, .int .i64 0, .int .i64 0]:=⟨ai⟩
instance:eD prog 365 [(0,1),(1,1)] [.string ⟨[].toArray⟩, .int .u64 0]:=⟨ai⟩
instance:eD prog 370 [(0,1),(1,1),(2,1)] [.int .i64 0, .int .u64 0, .slice none 0 0]:=⟨ai⟩
instance:eD prog 382 [] []:=⟨ai⟩
end
section
attribute [local irreducible] GO GX
def aG (l:List Nat):List Value:=l.map fun n:Nat => .int .i64 (n:Int)
@[simp] theorem agt (l:List Nat):(aG l).length=l.length:=by simp[aG]
theorem u4 (l:List Nat):∀u∈aG l,u.oneCell'=true:=by
 intro u hu;obtain⟨x,_,rfl⟩:=bG.1 hu;rfl
def ak (b:Nat):Value := .pointer (some ⟨b,0,none⟩)
def bq (l:List Nat):List Value:=l.map ak
@[simp] theorem am8 (l:List Nat):(bq l).length=l.length:=by simp[bq]
theorem CH (l:List Nat):∀u∈bq l,u.oneCell'=true:=by
 intro u hu;obtain⟨x,_,rfl⟩:=bG.1 hu;rfl
theorem Hn {w:World}{a:Option Addr}{l:List Value}(h:bN w a l){i:Nat}(hi:i<l.length):∃b o,a=some ⟨b,o,none⟩∧∀j:Int,j.toNat=i→At w b (o+j.toNat*1) [l[i]]:=by
 obtain⟨b,o,rfl,hA⟩:=h.sC ah;refine⟨b,o,rfl,fun j hj=>?_⟩;rw[hj];have:=At.one hA (show l[i]?=some l[i] by simp[hi]);simpa using this
theorem aaZ {w:World}{el:TypeId}{b n c:Nat}{l:List Value}(h:aH w el 1 (some b) (some ⟨b,0,none⟩) n c l){i:Nat}(hi:i<l.length):∀j:Int,j.toNat=i→At w b (0+j.toNat*1) [l[i]]:=by
 obtain⟨b',o,e,hA⟩:=Hn h.bL hi;cases e;exact hA
theorem NM {w:World}{el:TypeId}{b n c:Nat}{l:List Nat}(h:aH w el 1 (some b) (some ⟨b,0,none⟩) n c (aG l)){i:Nat}{x:Nat}(hx:l[i]?=some x):∀j:Int,j.toNat=i→At w b (0+j.toNat*1) [.int .i64 x]:=by
 intro j hj;have hi:=(aV.1 hx).1;have:=aaZ h (i:=i) (by simpa using hi) j hj;simpa[aG,(aV.1 hx).2] using this
theorem sH {w:World}{a:Option Addr}{l:List Nat}(h:bN w a (bq l)){i:Nat}{x:Nat}(hx:l[i]?=some x):∃b o,a=some ⟨b,o,none⟩∧∀j:Int,j.toNat=i→At w b (o+j.toNat*1) [ak x]:=by
 have hi:=(aV.1 hx).1;obtain⟨b,o,e,hA⟩:=Hn h (i:=i) (by simpa using hi);refine⟨b,o,e,fun j hj=>?_⟩;have:=hA j hj;simpa[bq,(aV.1 hx).2] using this
theorem uZ {w:World}{a:Option Addr}{l:List Nat}(h:bN w a (aG l)){i:Nat}{x:Nat}(hx:l[i]?=some x):∃b o,a=some ⟨b,o,none⟩∧∀j:Int,j.toNat=i→At w b (o+j.toNat*1) [.int .i64 x]:=by
 have hi:=(aV.1 hx).1;obtain⟨b,o,e,hA⟩:=Hn h (i:=i) (by simpa using hi);refine⟨b,o,e,fun j hj=>?_⟩;have:=hA j hj;simpa[aG,(aV.1 hx).2] using this
theorem rm {w:World}{el sz b:Nat}{a:Option Addr}{len cap:Nat}{cs:List Value}(h:aH w el sz (some b) a len cap cs) :
  ∃cur,w.heap[b]?=some (.cells cur el (0,0))∧len≤cap∧cap≤maxLen∧cur.size=cap*sz∧cur.toList.take (len*sz)=cs:=by
 obtain⟨_,⟨h,_⟩|⟨b',hb,rfl,_,⟨h,_⟩|⟨g,c,cur,h,_,hg,h1,h2,h3,h4⟩⟩⟩:=h
 ·cases h
 ·cases h
 ·cases hb;cases h;exact⟨cur,hg,h1,h2,h3,h4⟩
section
variable {P:Program}{ops:Array Oper}{Q:Exit→Act→World→Prop}{n:Nat}
variable {i:Nat}{e:Env}{w:World}{ty:TypeId}{pos:String}{an:Array Edge}{g:Option (Nat×Bool)}
theorem GX.da [Fr]{S:World→Prop}{m:Nat}{dst:Option Tmp}{x:Operand}{args:Array Operand}{ts:Array TypeId}{f:FuncId}{fs cs:Array Value}{vs:List Value}{V:Value}{al:List Value}(hc:aj P f al.toArray w fun v w'=>v=V∧w'=w)
  (ho:ops[i]?=some ⟨dst, .call ⟨.value x,args,ts⟩,ty,pos,an,g⟩) (hw:aI ops e ⟨dst, .call ⟨.value x,args,ts⟩,ty,pos,an,g⟩=some true) (hx:ev e x=some (.func (.func f) fs cs)) (hy:kO e args.toList=some vs) (hd:fits n dst=true)
  (cj:fs.toList++vs++cs.toList=al) [hf:ax P f]
  (h:GX P ops Q S n (bc (i+1) m) (e.put dst V) w):GX P ops Q S n (bc i (m+1)) e w:=
 GX.aw ho (GO.rL hw hx hy hd cj hc fun v w' ⟨h1,h2⟩=>by subst h1;rw[h2];exact⟨fun _ h=>h,h⟩)
theorem GX.yT [Fr]{m:Nat}{t:TypeId}[hf:aC P t false 1]{x y:Operand}{b o:Nat}{v:Value}{l l':List Value}(hB:cE w b l)
  (ho:ops[i]?=some ⟨none, .store t x y,ty,pos,an,g⟩) (hw:aI ops e ⟨none, .store t x y,ty,pos,an,g⟩=some true) (hx:ev e x=some (.pointer (some ⟨b,o,none⟩))) (hy:ev e y=some v)
  (hc:v.cells.toList=[v]) (h1:v.oneCell'=true) (hlen:Nat.ble (o+1) l.length=true) (hl':l.take o++[v]++l.drop (o+1)=l')
  (h:∀w',cE w' b l'→Mod (· = b) w w'→GX P ops Q (fun _=>True) n (bc (i+1) m) e w'):GX P ops Q (fun _=>True) n (bc i (m+1)) e w:=
 GX.store (vs:=[v]) hB ho hw hx hy hc rfl hlen (by simpa using h1) hl' h
theorem GX.F9 [Fr]{T:Nat→Prop}{w0:World}{p:b6}{t:TypeId}[hf:aC P t false 1]{x y:Operand}{b o:Nat}{v:Value}{l l':List Value}(hB:cE w b l)(hT:T b∨gS ops i=true)
  (ho:ops[i]?=some ⟨none, .store t x y,ty,pos,an,g⟩) (hw:aI ops e ⟨none, .store t x y,ty,pos,an,g⟩=some true) (hx:ev e x=some (.pointer (some ⟨b,o,none⟩))) (hy:ev e y=some v)
  (hc:v.cells.toList=[v]) (h1:v.oneCell'=true) (hlen:Nat.ble (o+1) l.length=true) (hl':l.take o++[v]++l.drop (o+1)=l')
  (h:∀w',cE w' b l'→Mod (· = b) w w'→GX P ops Q (Mod T w0) n p e w'):GX P ops Q (Mod T w0) n (.aw i p) e w:=
 GX.XZ (vs:=[v]) hB hT ho hw hx hy hc rfl hlen (by simpa using h1) hl' h
end
theorem OK {w w':World}{el:TypeId}{b n c i:Nat}{a:Option Addr}{cs:List Value}{v:Value}(h:aH w el 1 (some b) a n c cs)(hp:mu w w' b i [v])(hi:i<cs.length):aH w' el 1 (some b) a n c (cs.set i v):=by
 obtain⟨h0,⟨h,_⟩|⟨b',hb,rfl,hl,⟨h,_⟩|⟨g,k,cur,h,hk,hg,h1,h2,h3,h4⟩⟩⟩:=h
 ·cases h
 ·cases h
 ·cases hb;cases h;refine⟨by simpa using h0, .inr ⟨b,rfl,rfl,by simpa using hl, .inr ⟨b,c,_,rfl,hk,hp.here _ _ _ hg,h1,h2,?_,?_⟩⟩⟩
  ·have jR:i<cur.size:=by
    rw[←h4,dI] at hi;simp at hi;omega
   simp;omega
  ·have hlen:i<n*1:=by rw[←h4,dI] at hi;omega
   rw[←h4];apply pB;intro j;simp only[gW,vy,List.getElem?_set,dI];have uB:i<cur.toList.length:=by rw[←h4,dI] at hi;omega
   by_cases Ew:j<n*1
   ·simp only[Ew,if_true]
    by_cases mH:i=j
    ·subst mH;rw[if_pos rfl,if_pos ah];rw[cS,iD (by simp;omega)];have ac8:min i cur.size=i:=pC (by simp at uB;omega);simp[ac8]
    ·rw[if_neg mH]
     by_cases aN:j<i
     ·rw[cS,gp (by simp;omega),vy,if_pos aN]
     ·rw[iD (by simp;omega)];simp only[bH,dI,gW,pC (Nat.le_of_lt uB),List.getElem?_drop];congr 1;omega
   ·simp only[Ew,if_false];rw[if_neg ah]
section
variable {P:Program}{ops:Array Oper}{Q:Exit→Act→World→Prop}{n:Nat}
variable {i:Nat}{e:Env}{w:World}{ty:TypeId}{pos:String}{an:Array Edge}{g:Option (Nat×Bool)}
theorem OL {el:TypeId}{b n c j:Nat}{a:Option Addr}{cs:List Value}(h:aH w el 1 (some b) a n c cs)(hj:j<cs.length):Wr w b j 1:=by
 obtain⟨cur,hg,h1,h2,h3,h4⟩:=rm h;refine⟨cur,el,(0,0),hg,?_,fun k _=>by simp⟩;rw[←h4,dI] at hj;simp at hj;omega
theorem GX.CP [Fr]{T:Nat→Prop}{w0:World}{p:b6}{dst:Option Tmp}{t:TypeId}{x:Operand}{v:Value}{l:List Value}{el:TypeId}{sz aT:Nat}
  (ho:ops[i]?=some ⟨dst, .buildSlice t 1 #[(0,x)],ty,pos,an,g⟩) [hf:cr P t el sz aT] (hw:aI ops e ⟨dst, .buildSlice t 1 #[(0,x)],ty,pos,an,g⟩=some true)
  (hx:ev e x=some v) (hv:v.cells.toList=l) (hl:l.length=sz) (h0:Nat.blt 0 sz=true) (hz:Nat.ble sz 16777216=true) (mF:Nat.ble aT 140737488355328=true) (hd:fits n dst=true)
  (h:∀b w',b=w.heap.size→aH w' el sz (some b) (some ⟨b,0,none⟩) 1 1 l→Ext w w'→GX P ops Q (Mod T w0) n p (e.put dst (.slice (some ⟨b,0,none⟩) 1 1)) w'):GX P ops Q (Mod T w0) n (.aw i p) e w:=
 GX.aw ho (GO.buildSlice (vs:=[(0,v)]) (pl:=[(0,l)]) (XK hf hl h0 hz) ⟨by rw[Nat.one_mul];exact vq mF,by decide⟩ hw (by simp[hx]) (by simp[hv]) (by rw[hl,Nat.one_mul]) hd fun b w' h1 h2 h3=>⟨fun _ hS=>hS.trans h3.mod,h b w' h1 h2 h3⟩)
theorem GX.Bh [Fr]{T:Nat→Prop}{w0:World}{p:b6}{dst:Option Tmp}{x y:Operand}{t el:TypeId}{sz aT:Nat}{ob:Option Nat}{a a2:Option Addr}{len cap m2 c2:Nat}{cs news:List Value}(hO:aH w el sz ob a len cap cs)(hN:bN w a2 news)(hT:∀k,some k=ob→T k)
  (ho:ops[i]?=some ⟨dst, .call ⟨.builtin .append,#[x,y],#[t,t]⟩,ty,pos,an,g⟩) [hf:cr P t el sz aT] (hw:aI ops e ⟨dst, .call ⟨.builtin .append,#[x,y],#[t,t]⟩,ty,pos,an,g⟩=some true) (hx:ev e x=some (.slice a len cap)) (hy:ev e y=some (.slice a2 m2 c2)) (hd:fits n dst=true)
  (hz:Nat.blt 0 sz=true) (hnl:news.length=m2*sz) (h1:∀u∈news,u.oneCell'=true) (hb:(len+m2)*aT≤140737488355328) (hm:len+m2≤140737488355328)
  (h:∀cQ a' c' w',aH w' el sz cQ a' (len+m2) c' (cs++news)→Mod (fun k=>some k=ob) w w'→(∀x,cQ=some x→ob=some x∨w.heap.size≤x)→(∀x,a'=some x→cQ=some x.block∨(a=some x∧cQ=ob)) →
    GX P ops Q (Mod T w0) n p (e.put dst (.slice a' (len+m2) c')) w'):GX P ops Q (Mod T w0) n (.aw i p) e w:=
 GX.aw ho (GO.append hO hN hnl h1 hb hm hz hw hx hy hd fun cQ a' c' w' q1 q2 q3 q4=>⟨fun _ hS=>hS.trans (q2.weaken fun k _ hk=>hT k hk),h cQ a' c' w' q1 q2 q3 q4⟩)
theorem GX.Pd [Fr]{m:Nat}{t:TypeId}[hf:aC P t false 1]{x y:Operand}{el:TypeId}{b len cap j:Nat}{a:Option Addr}{v:Value}{cs:List Value}(hO:aH w el 1 (some b) a len cap cs)(hj:j<cs.length)
  (ho:ops[i]?=some ⟨none, .store t x y,ty,pos,an,g⟩) (hw:aI ops e ⟨none, .store t x y,ty,pos,an,g⟩=some true) (hx:ev e x=some (.pointer (some ⟨b,j,none⟩))) (hy:ev e y=some v)
  (hc:v.cells.toList=[v]) (h1:v.oneCell'=true)
  (h:∀w',aH w' el 1 (some b) a len cap (cs.set j v)→Mod (· = b) w w'→GX P ops Q (fun _=>True) n (bc (i+1) m) e w'):GX P ops Q (fun _=>True) n (bc i (m+1)) e w:=
 GX.aw ho (GO.store (vs:=[v]) (OL hO hj) hc rfl (by simpa using h1) hw hx hy fun w' hp=>⟨fun _ _=>trivial,h w' (OK hO hp hj) hp.mod⟩)
end
theorem ahW {w w':World}{el:TypeId}{b n c k:Nat}{a:Option Addr}{cs vs:List Value}(h:aH w el 1 (some b) a n c cs)(hp:mu w w' b k vs)(hk:k+vs.length≤n):aH w' el 1 (some b) a k c (cs.take k):=by
 obtain⟨h0,⟨h,_⟩|⟨b',hb,rfl,hl,⟨h,_⟩|⟨g,k',cur,h,dR,hg,h1,h2,h3,h4⟩⟩⟩:=h
 ·cases h
 ·cases h
 ·cases hb;cases h;have qV:(cs.take k).length=k*1:=by rw[dI];omega
  have uB:n≤cur.toList.length:=by
   have:=congrArg List.length h4;rw[dI] at this;omega
  refine⟨qV, .inr ⟨b,rfl,rfl,qV, .inr ⟨b,c,_,rfl,dR,hp.here _ _ _ hg,by omega,h2,?_,?_⟩⟩⟩
  ·have:cur.size=cur.toList.length:=by simp
   simp;omega
  ·rw[←h4,List.take_take];show((cur.toList.take k++vs++cur.toList.drop (k+vs.length))).take (k*1)=_;rw[cS,vt (by rw[dI];omega),List.take_take];congr 1;omega
theorem ahX {w:World}{el:TypeId}{b n c j k:Nat}{a:Option Addr}{cs:List Value}(h:aH w el 1 (some b) a n c cs)(hj:j+k≤n):Wr w b j k:=by
 obtain⟨cur,hg,h1,h2,h3,h4⟩:=rm h;exact⟨cur,el,(0,0),hg,by omega,fun k _=>by simp⟩
end
section
structure It where
 ok:World→(Nat→Prop)→(Nat→Prop)→Prop
 mod:∀{S:Nat→Prop}{w w':World}{Z Z' F:Nat→Prop},ok w Z F→Mod S w w'→(∀b,F b∨Z b→¬S b)→(∀b,Z b→Z' b)→ok w' Z' F
 lt:∀{w:World}{Z F:Nat→Prop}{b:Nat},ok w Z F→F b→b<w.heap.size
def Sep (w:World)(Z:Nat→Prop):List It→(Nat→Prop)→Prop
 | [],F=>F=fun _=>False
 |x::r,F=>∃F1 F2,F=(fun b=>F1 b∨F2 b)∧(∀b,F1 b→¬F2 b)∧x.ok w Z F1∧Sep w Z r F2
theorem Sep.mod {S:Nat→Prop}{w w':World}{Z Z':Nat→Prop}:∀{l:List It}{F:Nat→Prop},Sep w Z l F→Mod S w w'→(∀b,F b∨Z b→¬S b)→(∀b,Z b→Z' b)→Sep w' Z' l F
 | [],_,h,_,_,_=>h
 |x::r,_,⟨F1,F2,e,hd,h1,h2⟩,hm,hn,hz=>by
  subst e;exact⟨F1,F2,rfl,hd,x.mod h1 hm (fun b hb=>hn b (hb.imp .inl id)) hz,h2.mod hm (fun b hb=>hn b (hb.imp .inr id)) hz⟩
theorem Sep.lt {w:World}{Z:Nat→Prop}:∀{l:List It}{F:Nat→Prop}{b:Nat},Sep w Z l F→F b→b<w.heap.size
 | [],_,_,h,hb=>by rw[h] at hb;exact hb.elim
 |x::r,_,b,⟨F1,F2,e,_,h1,h2⟩,hb=>by
  subst e
  rcases hb with hb|hb
  ·exact x.lt h1 hb
  ·exact h2.lt hb
theorem Sep.perm {w:World}{Z:Nat→Prop}{l l':List It}(p:l.Perm l'):∀{F:Nat→Prop},Sep w Z l F→Sep w Z l' F:=by
 induction p with
 |nil=>exact fun h=>h
 |cons x _ ih=>rintro F ⟨F1,F2,e,hd,h1,h2⟩;exact⟨F1,F2,e,hd,h1,ih h2⟩
 |swap x y l=>
  rintro F ⟨F1,F2,rfl,hd,h1,F3,F4,rfl,fE,h3,h4⟩;refine⟨F3,fun b=>F1 b∨F4 b,by funext b;exact propext (by constructor<;>(intro h;rcases h with h|h|h<;>simp[h])),fun b Bw h=>?_,h3,F1,F4,rfl,fun b gM uv=>hd b gM (.inr uv),h1,h4⟩
  rcases h with h|h
  ·exact hd b h (.inl Bw)
  ·exact fE b Bw h
 |trans _ _ ih1 ih2=>exact fun h=>ih2 (ih1 h)
theorem Sep.split {w:World}{Z:Nat→Prop}{r:List It}:∀{l:List It}{F:Nat→Prop},Sep w Z (l++r) F→∃F1 F2,F=(fun b=>F1 b∨F2 b)∧(∀b,F1 b→¬F2 b)∧Sep w Z l F1∧Sep w Z r F2
 | [],F,h=>⟨fun _=>False,F,by simp,fun _ h=>h.elim,rfl,h⟩
 |x::l,_,⟨F1,F2,e,hd,h1,h2⟩=>by
  obtain⟨F3,F4,e2,fE,h3,h4⟩:=h2.split;subst e e2;refine⟨fun b=>F1 b∨F3 b,F4,by funext b;simp[or_assoc],fun b h uv=>?_,⟨F1,F3,rfl,fun b gM Bw=>hd b gM (.inl Bw),h1,h3⟩,h4⟩
  rcases h with h|h
  ·exact hd b h (.inr uv)
  ·exact fE b h uv
theorem Sep.join {w:World}{Z:Nat→Prop}{r:List It}{F2:Nat→Prop}(h2:Sep w Z r F2):∀{l:List It}{F1:Nat→Prop},Sep w Z l F1→(∀b,F1 b→¬F2 b)→Sep w Z (l++r) (fun b=>F1 b∨F2 b)
 | [],F1,h,_=>by
   have e:F1=fun _=>False:=h
   subst e;simpa using h2
 |x::l,_,⟨F1,F3,e,hd,h1,h3⟩,hn=>by
  subst e;refine⟨F1,fun b=>F3 b∨F2 b,by funext b;simp[or_assoc],fun b hb h=>?_,h1,Sep.join h2 h3 fun b hb=>hn b (.inr hb)⟩
  rcases h with h|h
  ·exact hd b hb h
  ·exact hn b (.inl hb) h
structure Og where
 w:World
 Z:Nat→Prop
 F:Nat→Prop
structure Up (o:Og)(w:World)(Z F:Nat→Prop):Prop where
 mod:Mod o.F o.w w
 rk:∀b,F b→o.F b∨o.w.heap.size≤b
 Cg:∀b,o.Z b→Z b
 Ct:∀b,Z b→o.Z b∨o.F b∨o.w.heap.size≤b
def SH (o:Og)(w:World)(l:List It):Prop:=∃Z F,Up o w Z F∧Sep w Z l F∧(∀b,F b→¬Z b)∧∀b,Z b→b<w.heap.size
def Start (o:Og)(w:World)(l:List It):Prop:=o.w=w∧Sep w o.Z l o.F∧(∀b,o.F b→¬o.Z b)∧∀b,o.Z b→b<w.heap.size
theorem Start.sh {o:Og}{w:World}{l:List It}(h:Start o w l):SH o w l:=by
 obtain⟨rfl,h1,h2,h3⟩:=h;exact⟨o.Z,o.F,⟨Mod.refl _,fun _ h => .inl h,fun _ h=>h,fun _ h => .inl h⟩,h1,h2,h3⟩
theorem SH.mod {o:Og}{w:World}{l:List It}(h:SH o w l):Mod o.F o.w w:=let⟨_,_,hu,_⟩:=h;hu.mod
theorem SH.perm {o:Og}{w:World}{l l':List It}(h:SH o w l)(p:l.Perm l'):SH o w l':=
 let⟨Z,F,hu,h1,h2⟩:=h;⟨Z,F,hu,h1.perm p,h2⟩
theorem SH.ext {o:Og}{w w':World}{l:List It}(h:SH o w l)(hE:Ext w w'):SH o w' l:=
 let⟨Z,F,hu,h1,h2,h3⟩:=h
 ⟨Z,F,⟨hu.mod.trans hE.mod,hu.rk,hu.Cg,hu.Ct⟩,h1.mod hE (fun _ _ h=>h) (fun _ h=>h),h2,fun b hb=>jL (h3 b hb) hE.size⟩
theorem SH.call {o:Og}{w:World}{l r:List It}(h:SH o w (l++r)):∃o',Start o' w l∧∀w' l',SH o' w' l'→SH o w' (l'++r):=by
 obtain⟨Z,F,hu,h1,h2,h3⟩:=h;obtain⟨F1,F2,rfl,hd,q1,q2⟩:=h1.split;refine⟨⟨w,Z,F1⟩,⟨rfl,q1,fun b hb=>h2 b (.inl hb),h3⟩,fun w' l' ⟨Z',F',Nl,k1,k2,k3⟩=>?_⟩;obtain⟨m1,m2,m3,m4⟩:=Nl;simp only at m1 m2 m3 m4;have vS:∀b,F2 b→b<w.heap.size:=fun b hb=>q2.lt hb
 have OT:Sep w' Z' r F2:=q2.mod m1 (fun b hb h=>hb.elim (fun hb=>hd b h hb) (fun hb=>h2 b (.inl h) hb)) m3;refine⟨Z',fun b=>F' b∨F2 b,⟨?_,fun b hb=>?_,fun b hb=>m3 b (hu.Cg b hb),fun b hb=>?_⟩,Sep.join OT k1 (fun b h1 ni=>?_),fun b hb=>?_,k3⟩
 ·exact Mod.then hu.mod m1 fun i hi h=>(hu.rk i (.inl h)).elim id fun h=>absurd h ah
 ·rcases hb with hb|hb
  ·rcases m2 b hb with h|h
   ·exact hu.rk b (.inl h)
   ·exact .inr (dF hu.mod.size h)
  ·exact hu.rk b (.inr hb)
 ·rcases m4 b hb with h|h|h
  ·exact hu.Ct b h
  ·exact .inr (hu.rk b (.inl h))
  ·exact .inr (.inr (dF hu.mod.size h))
 ·rcases m2 b h1 with h|h
  ·exact hd b h ni
  ·have:=vS b ni;omega
 ·rcases hb with hb|hb
  ·exact k2 b hb
  ·intro hz
   rcases m4 b hz with h|h|h
   ·exact h2 b (.inr hb) h
   ·exact hd b h hb
   ·have:=vS b hb;omega
theorem SH.step {o:Og}{w w':World}{x:It}{l r:List It}(h:SH o w (x::r))(hs:∀Z F,x.ok w Z F→(∀b,Z b→b<w.heap.size)→∃F',Sep w' Z l F'∧Mod F w w'∧∀b,F' b→F b∨w.heap.size≤b):SH o w' (l++r):=by
 obtain⟨o',⟨e,⟨F1,F2,hF,hd,h1,h2⟩,h3,h4⟩,hK⟩:=SH.call (l:=[x]) h;have e2:F2=fun _=>False:=h2
 subst e2;have hF':o'.F=F1:=by rw[hF];funext b;simp
 obtain⟨F',k1,k2,k3⟩:=hs o'.Z F1 h1 h4;rw[←hF'] at k2 k3;subst e;refine hK w' l ⟨o'.Z,F',⟨k2,k3,fun _ h=>h,fun _ h => .inl h⟩,k1,fun b hb hz=>?_,fun b hb=>jL (h4 b hb) k2.size⟩
 rcases k3 b hb with h|h
 ·exact h3 b h hz
 ·have:=h4 b hz;omega
theorem SH.add {o:Og}{w w':World}{x:It}{l:List It}(h:SH o w l)(hE:Ext w w')(hx:∃F,(∀Z,x.ok w' Z F)∧∀b,F b→w.heap.size≤b):SH o w' (x::l):=by
 obtain⟨o',⟨e,h2,h3,h4⟩,hK⟩:=SH.call (l:=[]) h;obtain⟨F,k1,k2⟩:=hx;have e2:o'.F=fun _=>False:=h2
 subst e;refine hK w' [x] ⟨o'.Z,F,⟨hE.mod,fun b hb => .inr (k2 b hb),fun _ h=>h,fun _ h => .inl h⟩,⟨F,fun _=>False,by simp,fun _ _ h=>h,k1 _,rfl⟩,fun b hb hz=>?_,fun b hb=>jL (h4 b hb) hE.size⟩;have:=h4 b hz;have:=k2 b hb;omega
theorem SH.drop {o:Og}{w:World}{x:It}{l:List It}(h:SH o w (x::l)):SH o w l:=by
 obtain⟨Z,F,hu,⟨F1,F2,rfl,_,_,h1⟩,h2,h3⟩:=h;exact⟨Z,F2,⟨hu.mod,fun b hb=>hu.rk b (.inr hb),hu.Cg,hu.Ct⟩,h1,fun b hb=>h2 b (.inr hb),h3⟩
theorem SH.La {o:Og}{w:World}{r:List It}:∀{l:List It},SH o w (l++r)→SH o w r
 | [],h=>h
 |_::_,h=>SH.La (SH.drop h)
theorem SH.head {o:Og}{w:World}{x:It}{l:List It}(h:SH o w (x::l)):∃Z F,x.ok w Z F:=by
 obtain⟨Z,F,_,⟨F1,F2,_,_,h1,_⟩,_⟩:=h;exact⟨Z,F1,h1⟩
theorem SH.nodup {o:Og}{w:World}{x y:It}{l:List It}(h:SH o w (x::y::l)):∃Z F1 F2,x.ok w Z F1∧y.ok w Z F2∧(∀b,F1 b→¬F2 b)∧(∀b,F1 b∨F2 b→¬Z b):=by
 obtain⟨Z,F,_,⟨F1,F2,rfl,hd,h1,F3,F4,rfl,fE,h3,h4⟩,h5,_⟩:=h;exact⟨Z,F1,F3,h1,h3,fun b h1 h3=>hd b h1 (.inl h3),fun b hb=>h5 b (hb.elim .inl fun h => .inr (.inl h))⟩
inductive az (x:It):List It→List It→Prop
 |here {l:List It}:az x (x::l) l
 |there {y:It}{l r:List It}:az x l r→az x (y::l) (y::r)
theorem bP {x:It}{l r:List It}(h:az x l r:=by repeat(first|exact az.here|apply az.there)):az x l r:=h
theorem az.perm {x:It}{l r:List It}(h:az x l r):l.Perm (x::r):=by
 induction h with
 |here=>exact pD _
 |there _ ih=>exact(List.Perm.cons _ ih).trans (List.Perm.swap _ _ _)
inductive bA (x y:It):List It→List It→Prop
 |here {l:List It}:bA x y (x::l) (y::l)
 |there {z:It}{l r:List It}:bA x y l r→bA x y (z::l) (z::r)
theorem bA.perm {x y:It}{l r:List It}(h:bA x y l r):∃m,l.Perm (x::m)∧List.Perm (y::m) r:=by
 induction h with
 |here=>exact⟨_,pD _,pD _⟩
 |there _ ih=>
  obtain⟨m,h1,h2⟩:=ih;exact⟨_::m,(List.Perm.cons _ h1).trans (List.Perm.swap _ _ _),(List.Perm.swap _ _ _).trans (List.Perm.cons _ h2)⟩
inductive Pk:List It→List It→List It→Prop
 |nil {l:List It}:Pk l [] l
 |cons {x:It}{l r s t:List It}:az x l r→Pk r s t→Pk l (x::s) t
theorem Pk.perm {l s t:List It}(h:Pk l s t):l.Perm (s++t):=by
 induction h with
 |nil=>exact pD _
 |cons h1 _ ih=>exact h1.perm.trans (List.Perm.cons _ ih)
theorem SH.qq {o:Og}{w:World}{l r:List It}(h:SH o w l){x:It}(hs:az x l r:=by repeat(first|exact az.here|apply az.there)):SH o w (x::r):=h.perm hs.perm
theorem SH.to {o:Og}{w:World}{l s t:List It}(h:SH o w l)(hp:Pk l s t:=by repeat(first|exact Pk.nil|(apply Pk.cons;repeat(first|exact az.here|apply az.there)))):SH o w s:=
 SH.La ((h.perm hp.perm).perm sQ)
theorem SH.rep {o:Og}{w w':World}{x y:It}{l r:List It}(h:SH o w l)(hr:bA x y l r)(hs:∀Z F,x.ok w Z F→(∀b,Z b→b<w.heap.size)→∃F',y.ok w' Z F'∧Mod F w w'∧∀b,F' b→F b∨w.heap.size≤b):SH o w' r:=by
 obtain⟨m,h1,h2⟩:=hr.perm;refine SH.perm (SH.step (l:=[y]) (h.perm h1) fun Z F hx hz=>?_) h2;obtain⟨F',k1,k2⟩:=hs Z F hx hz;exact⟨F',⟨F',fun _=>False,by simp,fun _ _ h=>h,k1,rfl⟩,k2⟩
inductive Ap:List It→List It→List It→Prop
 |nil {l:List It}:Ap [] l l
 |cons {x:It}{a l r:List It}:Ap a l r→Ap (x::a) l (x::r)
theorem Ap.eq {a l r:List It}(h:Ap a l r):a++l=r:=by
 induction h with
 |nil=>rfl
 |cons _ ih=>rw[jK,ih]
theorem Ap.all:∀(a l:List It),Ap a l (a++l)
 | [],_ => .nil
 |_::a,l => .cons (Ap.all a l)
inductive St (v:Value):List Value→Nat→List Value→Prop
 |zero {x:Value}{l:List Value}:St v (x::l) 0 (v::l)
 |succ {x:Value}{l r:List Value}{n:Nat}:St v l n r→St v (x::l) (n+1) (x::r)
theorem St.eq {v:Value}{l r:List Value}{n:Nat}(h:St v l n r):l.set n v=r∧n<l.length:=by
 induction h with
 |zero=>exact⟨rfl,by simp⟩
 |succ _ ih=>exact⟨by rw[AX,ih.1],by simpa using ih.2⟩
def star {X:Type}(f:X→List It):It where
 ok w Z F:=∃x,Sep w Z (f x) F
 mod:=fun⟨x,h⟩ hm hn hz=>⟨x,h.mod hm hn hz⟩
 lt:=fun⟨_,h⟩ hb=>h.lt hb
theorem SH.un {o:Og}{w:World}{X:Type}{f:X→List It}{l r:List It}(h:SH o w l)(hs:az (star f) l r:=by repeat(first|exact az.here|apply az.there)):∃x,SH o w (f x++r):=by
 have h:=h.perm hs.perm;obtain⟨Z,F,_,⟨F1,F2,e,hd,⟨x,h1⟩,_⟩,_⟩:=id h;clear e hd h1;obtain⟨Z,F,hu,⟨F1,F2,e,hd,⟨x,h1⟩,h2⟩,h3⟩:=h;exact⟨x,Z,F,hu,by subst e;exact Sep.join h2 h1 hd,h3⟩
theorem Start.un {o:Og}{w:World}{X:Type}{f:X→List It}{r:List It}(h:Start o w (star f::r)):∃x,Start o w (f x++r):=by
 obtain⟨rfl,⟨F1,F2,e,hd,⟨x,h1⟩,h2⟩,h3⟩:=h;exact⟨x,rfl,by rw[e];exact Sep.join h2 h1 hd,h3⟩
theorem SH.ap {o:Og}{w:World}{a l r:List It}(h:SH o w (a++l))(ha:Ap a l r:=by first|(repeat(first|exact Ap.nil|apply Ap.cons))|exact Ap.all _ _):SH o w r:=ha.eq▸h
theorem SH.mk {o:Og}{w:World}{X:Type}{f:X→List It}{r:List It}(x:X)(h:SH o w (f x++r)):SH o w (star f::r):=by
 obtain⟨Z,F,hu,h1,h3⟩:=h;obtain⟨F1,F2,rfl,hd,q1,q2⟩:=h1.split;exact⟨Z,_,hu,⟨F1,F2,rfl,hd,⟨x,q1⟩,q2⟩,h3⟩
theorem SH.fold {o:Og}{w:World}{X:Type}{f:X→List It}{l t:List It}(x:X)(h:SH o w l)(hp:Pk l (f x) t:=by repeat(first|exact Pk.nil|(apply Pk.cons;repeat(first|exact az.here|apply az.there)))):SH o w (star f::t):=SH.mk x (h.perm hp.perm)
end
end Go.Proofs.YtoloaehmppcjoaaGreat.V.M
