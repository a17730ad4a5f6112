/-
  Parts of the proof. No condition.
-/
import Derived.Test.YtmlpbmgfmnmmmaaGreatW2ar
import Derived.Test.YtmlpbmgfmnmmmaaGreatW2an
import Derived.Lib.AppendZerosOnto
import Derived.Lib.Overlaps
set_option linter.unusedVariables false
set_option linter.unusedSimpArgs false
set_option maxRecDepth 8000
set_option maxHeartbeats 8000000
open Go.Proofs.Tryz
namespace Go.Proofs.YtmlpbmgfmnmmmaaGreat.V.M
section
attribute [local irreducible] GO GX
section
variable {P:Program}{ops:Array Oper}{Q:Exit→Act→World→Prop}{S:World→Prop}{n:Nat}
variable {i m:Nat}{p:bZ}{e:Env}{w:World}{k:Kd}{dst:Option Tmp}{ty:TypeId}{pos:String}{an:Array Edge}{g:Option (Nat×Bool)}
variable {og:Og}{l r l':List It}{b:Nat}
theorem GX.o8 [Fr]{T:Nat→Prop}{w0:World}{t:TypeId}{x:Operand}{v:Value}{vs:List Value}{el:TypeId}{sz aS:Nat}(hH:SH og w l:=by assumption)
  (ho:ops[i]?=some ⟨dst, .buildSlice t 1 #[(0,x)],ty,pos,an,g⟩:=by rfl) (hf:cj P t el sz aS:=by infer_instance) (hw:aH ops e ⟨dst, .buildSlice t 1 #[(0,x)],ty,pos,an,g⟩=some true:=by rfl) (hx:ev e x=some v:=by rfl) (hv:Cl v vs:=by first|exact Cl.agg|exact Cl.one rfl) (hl:vs.length=sz:=by rfl) (h0:Nat.blt 0 sz=true:=by rfl) (hz:Nat.ble sz 16777216=true:=by rfl) (jR:Nat.ble aS 140737488355328=true:=by rfl) (hd:fits n dst=true:=by rfl) (hT:Mod T w0 w:=by first|assumption|exact Ext.mod (by assumption))
  (h:∀b w',Mod T w0 w'→SH og w' (ao el sz (some b) 1 1 vs::l)→GX P ops Q (Mod T w0) n p (e.put dst (.slice (some ⟨b,0,none⟩) 1 1)) w'):GX P ops Q (Mod T w0) n (.ax i p) e w:=
 GX.CT ho hw hx hv.eq hl h0 hz jR hd fun b w' hb hO hE=>h b w' (hT.trans hE.mod) (hH.cE hE (fun k hk=>by cases hk;omega) hO)
theorem GX.oD [Fr]{T:Nat→Prop}{w0:World}{bn:Nat}{x y:Operand}{t el:TypeId}{sz aS:Nat}{q:Option Nat}{len cap:Nat}{cs vs:List Value}{pS:Option Nat→Nat→List It}(hH:SH og w l:=by assumption)
  (ho:ops[i]?=some ⟨dst, .call ⟨.builtin .append,#[x,y],#[t,t]⟩,ty,pos,an,g⟩:=by rfl) (hf:cj P t el sz aS:=by infer_instance) (hw:aH ops e ⟨dst, .call ⟨.builtin .append,#[x,y],#[t,t]⟩,ty,pos,an,g⟩=some true:=by rfl) (hx:ev e x=some (.slice (ay q) len cap):=by rfl) (hy:ev e y=some (.slice (some ⟨bn,0,none⟩) 1 1):=by rfl) (hd:fits n dst=true:=by rfl)
  (hs:aB (ao el sz (some bn) 1 1 vs) l r:=by repeat(first|exact aB.here|apply aB.there)) (hz:Nat.blt 0 sz=true:=by rfl)
  (h1:∀u∈vs,u.oneCell'=true) (hT:∀k,some k=q→T k:=by exact fun _ h=>h) (pM:Mod T w0 w:=by first|assumption|exact Ext.mod (by assumption)) (hr:∀q' c',bA (ao el sz q len cap cs) (ao el sz q' (len+1) c' (cs++vs)) l (pS q' c'):=by intro _ _;repeat(first|exact bA.here|apply bA.there)) (hb:(len+1)*aS≤140737488355328:=by omega) (hm:len+1≤140737488355328:=by omega)
  (h:∀q' c' w',Mod T w0 w'→SH og w' (pS q' c')→GX P ops Q (Mod T w0) n p (Env.put e dst (.slice (ay q') (len+1) c')) w'):GX P ops Q (Mod T w0) n (.ax i p) e w:=by
 obtain⟨_,pO,_⟩:=(hr none 0).perm;have oJ:aG w el sz q (ay q) len cap cs:=let⟨_,_,h,_⟩:=(hH.perm pO).head;h;have hO:aG w el sz (some bn) (ay (some bn)) 1 1 vs:=hH.own hs;have hlen:=hO.length;refine GX.Bh (m2:=1) (c2:=1) oJ hO.bR hT ho hw hx hy hd hz ah h1 hb hm fun cO a' c' yZ jN i' hn ha=>?_
 have e:a'=ay cO:=wO jN fun h0=>by
  cases qu:a' with
  |none=>rfl
  |some x=>
   rcases ha x qu with h2|⟨h2,h3⟩
   ·rw[h0] at h2;cases h2
   ·rw[←h3,h0] at h2;cases h2
 subst e;exact h cO c' yZ (pM.trans (i'.weaken fun k _ hk=>hT k hk)) (hH.ly (hr cO c') (fun _=>jN) (i'.weaken fun k _ hk=>hk) hn)
inductive mH (b:Nat):List It→Prop
 |kg {cs:List Value}{l:List It}:mH b (aA b cs::l)
 |sl {el:TypeId}{sz n c:Nat}{cs:List Value}{l:List It}:mH b (ao el sz (some b) n c cs::l)
 |map {κ ν:Type}{kv:κ→Value}{vv:ν→Value}{M:List (κ×ν)}{l:List It}:mH b (aQ b kv vv M::l)
 |there {x:It}{l:List It}:mH b l→mH b (x::l)
theorem mH.out {Z F:Nat→Prop}(h:mH b l)(hs:Sep w Z l F):F b:=by
 induction h generalizing F with
 |kg=>obtain⟨F1,F2,rfl,_,⟨_,rfl⟩,_⟩:=hs;exact .inl rfl
 |sl=>obtain⟨F1,F2,rfl,_,⟨_,rfl⟩,_⟩:=hs;exact .inl rfl
 |map=>obtain⟨F1,F2,rfl,_,⟨_,rfl⟩,_⟩:=hs;exact .inl rfl
 |there _ ih=>obtain⟨F1,F2,rfl,_,_,h2⟩:=hs;exact .inr (ih h2)
inductive rn (l:List It):List Nat→Prop
 |nil:rn l []
 |cons {b:Nat}{bs:List Nat}:mH b l→rn l bs→rn l (b::bs)
theorem rn.all {bs:List Nat}(h:rn l bs){k:Nat}(hk:k∈bs):mH k l:=by
 induction h with
 |nil=>cases hk
 |cons h _ ih=>rcases bY.1 hk with rfl|hk;exact h;exact ih hk
theorem SH.Qh {bs:List Nat}(h:SH og w (l++r))(hb:rn r bs):∃o',Start o' w l∧∀w' l',SH o' w' l'→Mod (cS bs) w w'∧SH og w' (l'++r):=by
 obtain⟨Z,F,hu,h1,h2,h3⟩:=h;obtain⟨F1,F2,rfl,hd,q1,q2⟩:=h1.split;have h0:SH og w (l++r):=⟨Z,_,hu,Sep.join q2 q1 hd,h2,h3⟩
 refine⟨⟨w,Z,F1⟩,⟨rfl,q1,fun b hb=>h2 b (.inl hb),h3⟩,fun w' l' hS=>⟨?_,?_⟩⟩
 ·refine hS.mod.weaken fun k _ hk mq=>hd k hk ((hb.all mq).out q2)
 ·obtain⟨Z',F',Nc,k1,k2,k3⟩:=hS;obtain⟨m1,m2,m3,m4⟩:=Nc;simp only at m1 m2 m3 m4;have vL:∀b,F2 b→b<w.heap.size:=fun b hb=>q2.lt hb
  have ON:Sep w' Z' r F2:=q2.mod m1 (fun b hb h=>hb.elim (fun hb=>hd b h hb) (fun hb=>h2 b (.inl h) hb)) m3;refine⟨Z',fun b=>F' b∨F2 b,⟨?_,fun b hb=>?_,fun b hb=>m3 b (hu.Cj b hb),fun b hb=>?_⟩,Sep.join ON k1 (fun b h1 mR=>?_),fun b hb=>?_,k3⟩
  ·exact Mod.then hu.mod m1 fun i hi h=>(hu.qS i (.inl h)).elim id fun h=>absurd h ah
  ·rcases hb with hb|hb
   ·rcases m2 b hb with h|h
    ·exact hu.qS b (.inl h)
    ·exact .inr (eh hu.mod.size h)
   ·exact hu.qS b (.inr hb)
  ·rcases m4 b hb with h|h|h
   ·exact hu.Cw b h
   ·exact .inr (hu.qS b (.inl h))
   ·exact .inr (.inr (eh hu.mod.size h))
  ·rcases m2 b h1 with h|h
   ·exact hd b h mR
   ·have:=vL b mR;omega
  ·rcases hb with hb|hb
   ·exact k2 b hb
   ·intro hz
    rcases m4 b hz with h|h|h
    ·exact h2 b (.inr hb) h
    ·exact hd b h hb
    ·have:=vL b hb;omega
theorem GX.gz [Fr]{bs:List Nat}{w0:World}{pre:List It}{V:Value}{out:List It}{x:Operand}{args:Array Operand}{ts:Array TypeId}{l2:List It}{f:FuncId}{fs cs:Array Value}{vs:List Value}{al:List Value}(hH:SH og w l:=by assumption)
  (hc:∀o',Start o' w pre→aj P f al.toArray w (Po o' V out))
  (ho:ops[i]?=some ⟨dst, .call ⟨.value x,args,ts⟩,ty,pos,an,g⟩:=by rfl) (hw:aH ops e ⟨dst, .call ⟨.value x,args,ts⟩,ty,pos,an,g⟩=some true:=by rfl) (hx:ev e x=some (.func (.func f) fs cs):=by rfl) (hy:ku e args.toList=some vs:=by rfl) (hd:fits n dst=true:=by rfl)
  (b6:fs.toList++vs++cs.toList=al:=by rfl) (hp:Pk l pre r:=by repeat(first|exact Pk.nil|(apply Pk.cons;repeat(first|exact aB.here|apply aB.there)))) (ha:Ap out r l2:=by first|(repeat(first|exact Ap.nil|apply Ap.cons))|exact Ap.all _ _) (hb:rn r bs:=by repeat(first|exact rn.nil|(refine rn.cons (by repeat(first|exact mH.kg|exact mH.sl|exact mH.map|apply mH.there)) ?_))) [hf:aw P f] (hT:Mod (cS bs) w0 w:=by first|assumption|exact Ext.mod (by assumption))
  (h:∀w',Mod (cS bs) w0 w'→SH og w' l2→GX P ops Q (Mod (cS bs) w0) n p (e.put dst V) w'):GX P ops Q (Mod (cS bs) w0) n (.ax i p) e w:=by
 obtain⟨o',hs,hK⟩:=SH.Qh (hH.perm hp.perm) hb;exact GX.ax ho (GO.ru hw hx hy hd b6 (hc o' hs) fun v w' ⟨hv,hS⟩=>⟨fun _ DZ=>DZ.trans (hK w' _ hS).1,by subst hv;exact h w' (hT.trans (hK w' _ hS).1) (ha.eq▸(hK w' _ hS).2)⟩)
theorem GX.gT [Fr]{bs:List Nat}{w0:World}{X:Type}{pre:List It}{V:X→Value}{C:X→Prop}{out:X→List It}{x:Operand}{args:Array Operand}{ts:Array TypeId}{f:FuncId}{fs cs:Array Value}{vs:List Value}{al:List Value}(hH:SH og w l:=by assumption)
  (hc:∀o',Start o' w pre→aj P f al.toArray w (aU o' V C out))
  (ho:ops[i]?=some ⟨dst, .call ⟨.value x,args,ts⟩,ty,pos,an,g⟩:=by rfl) (hw:aH ops e ⟨dst, .call ⟨.value x,args,ts⟩,ty,pos,an,g⟩=some true:=by rfl) (hx:ev e x=some (.func (.func f) fs cs):=by rfl) (hy:ku e args.toList=some vs:=by rfl) (hd:fits n dst=true:=by rfl)
  (b6:fs.toList++vs++cs.toList=al:=by rfl) (hp:Pk l pre r:=by repeat(first|exact Pk.nil|(apply Pk.cons;repeat(first|exact aB.here|apply aB.there)))) (hb:rn r bs:=by repeat(first|exact rn.nil|(refine rn.cons (by repeat(first|exact mH.kg|exact mH.sl|exact mH.map|apply mH.there)) ?_))) [hf:aw P f] (hT:Mod (cS bs) w0 w:=by first|assumption|exact Ext.mod (by assumption))
  (h:∀x w',C x→Mod (cS bs) w0 w'→SH og w' (out x++r)→GX P ops Q (Mod (cS bs) w0) n p (e.put dst (V x)) w'):GX P ops Q (Mod (cS bs) w0) n (.ax i p) e w:=by
 obtain⟨o',hs,hK⟩:=SH.Qh (hH.perm hp.perm) hb;exact GX.ax ho (GO.ru hw hx hy hd b6 (hc o' hs) fun v w' ⟨x,hv,hC,hS⟩=>⟨fun _ DZ=>DZ.trans (hK w' _ hS).1,by subst hv;exact h x w' hC (hT.trans (hK w' _ hS).1) (hK w' _ hS).2⟩)
end
section
variable {P:Program}{ops:Array Oper}{Q:Exit→Act→World→Prop}{S:World→Prop}{n:Nat}
variable {i m:Nat}{p:bZ}{e:Env}{w:World}{k:Kd}{dst:Option Tmp}{ty:TypeId}{pos:String}{an:Array Edge}{g:Option (Nat×Bool)}
variable {og:Og}{l r l':List It}{b:Nat}
theorem ajc {t t2 el:TypeId}{aS:Nat}(hf:cj P t el 1 aS){o dl dc sl sc:Nat}{a:Option Addr}{vs:List Value}(hA:bM w a vs)(hl:vs.length=Nat.min sl dl)(hW:Wr w b o vs.length)(h1:∀u∈vs,u.oneCell'=true) :
  ∃w',(Builtin.copy_ #[t,t2] ty #[.slice (some ⟨b,o,none⟩) dl dc, .slice a sl sc]).run P w = .ok (.int .i64 vs.length) w'∧l9 w w' b o vs:=by
 obtain⟨hu,ii,z,hi,_,hs,_⟩:=hf.facts;obtain⟨c,et,fr,hb,ho,hz⟩:=hW;cases vs with
 |nil=>
  refine⟨w,?_,⟨rfl,rfl,rfl,rfl,fun _ _=>rfl,fun c t fr h=>by simpa using h⟩⟩;exact run_copy_none w t t2 ty el _ a dl dc sl sc hu (by rw[hi];simp[hs]) (by simpa using hl.symm)
 |cons v vs=>
  obtain⟨b2,o2,rfl,ry⟩:=hA.rV (by simp);refine⟨_,run_copy_cells w t t2 ty el b o dl dc ⟨b2,o2,none⟩ sl sc (v::vs) hu (by rw[hi];simp[hs]) hl (fun j u hu=>by rw[ir];exact ry j u hu) (fun j hj=>?_) (fun j hj=>?_) h1,CN b (v::vs) o w c et fr hb ho⟩
  ·rw[cell_of_row w b _ c et fr hb,Array.getElem?_eq_getElem ah];rfl
  ·have:=hz j hj;simp only[World.frozen?,hb];exact this
theorem GO.QP [Fr]{x y:Operand}{t t2 el:TypeId}{aS:Nat}(hf:cj P t el 1 aS){o dl dc sl sc:Nat}{a:Option Addr}{vs:List Value}(hA:bM w a vs)(hl:vs.length=Nat.min sl dl)(hW:Wr w b o vs.length)(h1:∀u∈vs,u.oneCell'=true)
  (hw:aH ops e ⟨dst, .call ⟨.builtin .copy,#[x,y],#[t,t2]⟩,ty,pos,an,g⟩=some true) (hx:ev e x=some (.slice (some ⟨b,o,none⟩) dl dc)) (hy:ev e y=some (.slice a sl sc)) (hd:fits n dst=true)
  (h:∀w',l9 w w' b o vs→(gG ops i=false→S w→S w')∧GX P ops Q S n p (e.put dst (.int .i64 vs.length)) w'):GO P ops Q S n .ax i ⟨dst, .call ⟨.builtin .copy,#[x,y],#[t,t2]⟩,ty,pos,an,g⟩ p e w:=by
 obtain⟨w1,h2,h3⟩:=ajc (ty:=ty) (t2:=t2) (dc:=dc) (sc:=sc) hf hA hl hW h1;refine GO.run (R:=fun v w'=>v = .int .i64 vs.length∧w'=w1) hw hd (fun ac ha=>⟨_,_,w1,?_, .inl rfl,rfl,rfl⟩) ?_
 ·simp[execOp,resolve,invoke,builtin,bC ha hx,bC ha hy,h2]
 ·rintro _ _ ⟨rfl,rfl⟩;exact h _ h3
theorem GX.Dq [Fr]{x y:Operand}{t t2 el:TypeId}{aS N C:Nat}{o dl dc sl sc:Nat}{a:Option Addr}{vs cs cs':List Value}(hH:SH og w l:=by assumption)(hA:bM w a vs)
  (ho:ops[i]?=some ⟨dst, .call ⟨.builtin .copy,#[x,y],#[t,t2]⟩,ty,pos,an,g⟩:=by rfl) (hf:cj P t el 1 aS:=by infer_instance) (hw:aH ops e ⟨dst, .call ⟨.builtin .copy,#[x,y],#[t,t2]⟩,ty,pos,an,g⟩=some true:=by rfl) (hx:ev e x=some (.slice (some ⟨b,o,none⟩) dl dc):=by rfl) (hy:ev e y=some (.slice a sl sc):=by rfl) (hd:fits n dst=true:=by rfl)
  (hr:bA (ao el 1 (some b) N C cs) (ao el 1 (some b) N C cs') l l':=by repeat(first|exact bA.here|apply bA.there)) (hl:vs.length=Nat.min sl dl) (h1:∀u∈vs,u.oneCell'=true) (hb:o+vs.length≤cs.length) (hc:cs.take o++vs++cs.drop (o+vs.length)=cs')
  (h:∀w',SH og w' l'→GX P ops Q (fun _=>True) n (aY (i+1) m) (e.put dst (.int .i64 vs.length)) w'):GX P ops Q (fun _=>True) n (aY i (m+1)) e w:=by
 obtain⟨_,hs,_⟩:=hr.perm;have hO:aG w el 1 (some b) (ay (some b)) N C cs:=let⟨_,_,h,_⟩:=(hH.perm hs).head;h;refine GX.ax ho (GO.QP hf hA hl (FB hO ah) h1 hw hx hy hd fun w' hp=>⟨fun _ _=>trivial,h w' (hH.ly hr (fun _=>?_) (hp.mod.weaken fun k _ hk=>by rw[hk]) fun b hb => .inl hb)⟩);rw[←hc];exact AE hO hp hb
theorem GX.Dr [Fr]{bs:List Nat}{w0:World}{x y:Operand}{t t2 el:TypeId}{aS N C:Nat}{o dl dc sl sc:Nat}{a:Option Addr}{vs cs cs':List Value}(hH:SH og w l:=by assumption)(hA:bM w a vs)
  (ho:ops[i]?=some ⟨dst, .call ⟨.builtin .copy,#[x,y],#[t,t2]⟩,ty,pos,an,g⟩:=by rfl) (hf:cj P t el 1 aS:=by infer_instance) (hw:aH ops e ⟨dst, .call ⟨.builtin .copy,#[x,y],#[t,t2]⟩,ty,pos,an,g⟩=some true:=by rfl) (hx:ev e x=some (.slice (some ⟨b,o,none⟩) dl dc):=by rfl) (hy:ev e y=some (.slice a sl sc):=by rfl) (hd:fits n dst=true:=by rfl)
  (hr:bA (ao el 1 (some b) N C cs) (ao el 1 (some b) N C cs') l l':=by repeat(first|exact bA.here|apply bA.there)) (hl:vs.length=Nat.min sl dl) (h1:∀u∈vs,u.oneCell'=true) (hb:o+vs.length≤cs.length) (hc:cs.take o++vs++cs.drop (o+vs.length)=cs') (hn:b∉bs:=by simp)
  (h:∀w',SH og w' l'→GX P ops Q (Mod (cS bs) w0) n p (e.put dst (.int .i64 vs.length)) w'):GX P ops Q (Mod (cS bs) w0) n (.ax i p) e w:=by
 obtain⟨_,hs,_⟩:=hr.perm;have hO:aG w el 1 (some b) (ay (some b)) N C cs:=let⟨_,_,h,_⟩:=(hH.perm hs).head;h;refine GX.ax ho (GO.QP hf hA hl (FB hO ah) h1 hw hx hy hd fun w' hp=>⟨fun _ hS=>hS.trans (hp.mod.weaken fun k _ hk=>by subst hk;exact hn),h w' (hH.ly hr (fun _=>?_) (hp.mod.weaken fun k _ hk=>by rw[hk]) fun b hb => .inl hb)⟩);rw[←hc];exact AE hO hp hb
theorem lU (b i m:Nat)(h:i<m):eS (some ⟨b,0,none⟩) i m 1=some ⟨b,i,none⟩:=by
 unfold eS;rw[if_neg ah];simp[ir]
theorem Zx {len cap i:Nat}{kl:IntKind}(h:i≤len)(w:World):(Instr.sliceBounds true len cap (some (.int kl i)) none none).run P w = .ok (i,len,cap) w:=by
 simp[Instr.sliceBounds,run_sliceBound,(by omega:((i:Nat):Int)≤len)]
theorem Zv {len cap j:Nat}{kl:IntKind}(h:j≤cap)(w:World):(Instr.sliceBounds true len cap none (some (.int kl j)) none).run P w = .ok (0,j,cap) w:=by
 simp[Instr.sliceBounds,run_sliceBound,(by omega:((j:Nat):Int)≤cap)]
theorem P9 {len cap i j:Nat}{kl kh:IntKind}(h:i≤j)(h2:j≤cap)(w:World):(Instr.sliceBounds true len cap (some (.int kl i)) (some (.int kh j)) none).run P w = .ok (i,j,cap) w:=by
 simp[Instr.sliceBounds,run_sliceBound,(by omega:((j:Nat):Int)≤cap),(by omega:((i:Nat):Int)≤j)]
theorem GO.kL [Fr](hk:cB k=true){t:TypeId}{x y:Operand}{a:Option Addr}{len cap j:Nat}{el:TypeId}{sz aS:Nat}{ki:IntKind}(hw:aH ops e ⟨dst, .slice t x (some y) none none,ty,pos,an,g⟩=some true:=by rfl)(hf:cj P t el sz aS:=by infer_instance)(hx:ev e x=some (.slice a len cap):=by rfl)(hy:ev e y=some (.int ki (j:Nat)):=by rfl)(hd:fits n dst=true:=by rfl)(hj:j≤len:=by omega)
  (hh:GX P ops Q S n p (e.put dst (.slice (eS a j cap sz) (len - j) (cap - j))) w):GO P ops Q S n k i ⟨dst, .slice t x (some y) none none,ty,pos,an,g⟩ p e w:=
 GO.wW hk hw hx hd (by intro w;simp only[Option.map_none,jr,hy,nC];exact Zx hj w) ⟨by rintro _ ⟨⟩;rw[hy];rfl,by simp,by simp⟩ hh
theorem GO.yR [Fr](hk:cB k=true){t:TypeId}{x y:Operand}{a:Option Addr}{len cap j:Nat}{el:TypeId}{sz aS:Nat}{ki:IntKind}(hw:aH ops e ⟨dst, .slice t x none (some y) none,ty,pos,an,g⟩=some true:=by rfl)(hf:cj P t el sz aS:=by infer_instance)(hx:ev e x=some (.slice a len cap):=by rfl)(hy:ev e y=some (.int ki (j:Nat)):=by rfl)(hd:fits n dst=true:=by rfl)(hj:j≤cap:=by omega)
  (hh:GX P ops Q S n p (e.put dst (.slice (eS a 0 cap sz) j cap)) w):GO P ops Q S n k i ⟨dst, .slice t x none (some y) none,ty,pos,an,g⟩ p e w:=
 GO.wW hk hw hx hd (by intro w;simp only[Option.map_none,jr,hy,nC];exact Zv hj w) ⟨by simp,by rintro _ ⟨⟩;rw[hy];rfl,by simp⟩ hh
theorem GO.ajN [Fr](hk:cB k=true){t:TypeId}{x y z:Operand}{a:Option Addr}{len cap j h:Nat}{el:TypeId}{sz aS:Nat}{ki kj:IntKind}(hw:aH ops e ⟨dst, .slice t x (some y) (some z) none,ty,pos,an,g⟩=some true:=by rfl)(hf:cj P t el sz aS:=by infer_instance)(hx:ev e x=some (.slice a len cap):=by rfl)(hy:ev e y=some (.int ki (j:Nat)):=by rfl)(hz:ev e z=some (.int kj (h:Nat)):=by rfl)(hd:fits n dst=true:=by rfl)(hj:j≤h:=by omega)(hc:h≤cap:=by omega)
  (hh:GX P ops Q S n p (e.put dst (.slice (eS a j cap sz) (h - j) (cap - j))) w):GO P ops Q S n k i ⟨dst, .slice t x (some y) (some z) none,ty,pos,an,g⟩ p e w:=
 GO.wW hk hw hx hd (by intro w;simp only[Option.map_none,jr,hy,hz,nC];exact P9 hj hc w) ⟨by rintro _ ⟨⟩;rw[hy];rfl,by rintro _ ⟨⟩;rw[hz];rfl,by simp⟩ hh
end
end
section
attribute [local irreducible] GO GX aA fz aF aQ ao star
theorem amf {k:IntKind}(hs:k.signed=false){m:Nat}(h:m<2^k.bits):k.wrap (m:Int)=(m:Int):=by
 have h1:(m:Int) % (2^k.bits:Int)=(m:Int):=Int.emod_eq_of_lt ah (by exact_mod_cast h);simp only[IntKind.wrap,h1,hs,Bool.false_and];rfl
theorem ai4 {P:Program}{w:World}(k:IntKind)(hs:k.signed=false)(t:TypeId)(a b:Nat)(ha:a<2^k.bits)(hb:b<2^k.bits) :
  (binOp .and t (.int k a) (.int k b)).run P w = .ok (.int k (a &&& b:Nat)) w:=by
 have x3:(BitVec.ofInt k.bits (a:Int) &&& BitVec.ofInt k.bits (b:Int)).toNat=a &&& b:=by
  simp[rf ha,rf hb]
 simp only[binOp,Op.intBits,ne_eq,not_true_eq_false,if_false,x3,amf hs (Nat.and_lt_two_pow a hb)];rfl
theorem ai2 {P:Program}{w:World}(t:TypeId)(a b:Nat)(ha:a<18446744073709551616)(hb:b<18446744073709551616) :
 (binOp .and t (.int .u64 a) (.int .u64 b)).run P w = .ok (.int .u64 (a &&& b:Nat)) w:=ai4 .u64 rfl t a b ha hb
theorem KB {P:Program}{t:TypeId}(y:Nat)(hy:y<2^32)(w:World):(binOp .and t (uV y) (uV 4294967295)).run P w = .ok (uV y) w:=by
 have h:=ai2 (P:=P) (w:=w) t y 4294967295 ah (by decide);rw[show y &&& 4294967295=y by
  have:=Nat.and_two_pow_sub_one_eq_mod y 32;rw[show 2^32 - 1=4294967295 from rfl] at this;rw[this];exact rf hy] at h
 exact h
theorem ag7 (y:Nat)(hy:y<2^32)(w:World):aj prog 355 [uV 1,uV y].toArray w fun v w'=>v = .tuple #[uV 0,uV y]∧w'=w:=by
 have e1:(y:Int) / 2^32=0:=Int.ediv_eq_zero_of_lt ah ah;refine aj.enter func355 rfl ntmps355 rfl (gh ?_);refine GX.next rfl (GO.bits (c:=(1:Nat)) rfl rfl rfl rfl rfl (fun w=>KB 1 (by decide) w) (gh ?_));refine GX.next rfl (GO.shr (c:=(0:Nat)) rfl rfl rfl rfl rfl (by decide) (by decide) (gh ?_));refine GX.next rfl (GO.bits (c:=(y:Nat)) rfl rfl rfl rfl rfl (fun w=>KB y hy w) (gh ?_));refine GX.next rfl (GO.shr (c:=(0:Nat)) rfl rfl rfl rfl rfl (by decide) (by simpa[IntKind.bits] using e1) (gh ?_));refine GX.next rfl (GO.shr (c:=(0:Nat)) rfl rfl rfl rfl rfl (by decide) (by simpa[IntKind.bits] using e1) (gh ?_));refine GX.next rfl (GO.bits (c:=(0:Nat)) rfl rfl rfl rfl rfl (fun w=>by rw[show((0:Nat):Int)*(y:Int)+((0:Nat):Int)=((0:Nat):Int) by simp];exact KB 0 (by decide) w) (gh ?_));refine GX.next rfl (GO.shr (c:=(0:Nat)) rfl rfl rfl rfl rfl (by decide) (by simp) (gh ?_));refine GX.next rfl (GO.shr (c:=(0:Nat)) rfl rfl rfl rfl rfl (by decide) (by simp) (gh ?_));exact⟨by simp,rfl⟩
theorem ags (x y:Int)(w:World):aj prog 190 [iV x,iV y].toArray w fun v w'=>v = .bool (decide (x<y))∧w'=w:=by
 have e1:∀(z:Int) (w:World),aj prog 277 [iV z].toArray w fun v w'=>v = .bool false∧w'=w:=fun z w=>by
  refine aj.enter func277 rfl ntmps277 rfl (gh ?_);exact⟨by simp,rfl⟩
 refine aj.enter func190 rfl ntmps190 rfl (gh ?_);refine GX.da (e1 x _) rfl rfl rfl rfl rfl rfl (gh ?_);exact⟨rfl,rfl⟩
theorem aeI (z:Int)(w:World):aj prog 313 [iV z].toArray w fun v w'=>v = .bool false∧w'=w:=by
 refine aj.enter func313 rfl ntmps313 rfl (gh ?_);exact⟨by simp,rfl⟩
def Yy (F:List Nat)(n:Nat)(y:Nat×Bool):Prop:=y.1≤F.length∧(∀m∈F.take y.1,m<n)∧∀m∈F.drop y.1,n≤m
theorem ZB {o:Og}{w:World}{a:Option Addr}{c N:Nat}(F:List Nat)(n:Nat)(hN:F.length=N)(hl:N<2^40)(hF:F.Pairwise (· < ·))(hs:Start o w [aF a (aD F)]) :
  aj prog 270 [.slice a N c,iV n].toArray w (aU o (fun y:Nat×Bool => .tuple #[iV y.1, .bool y.2]) (Yy F n) (fun _=>[])):=by
 subst hN;have hH:=hs.sh;refine aj.enter func270 rfl ntmps270 rfl (gh ?_);refine GC.bP [0,1,6] (fun y:Nat×Nat=>[(7,iV y.1),(8,iV y.2)]) (fun y w'=>y.1≤y.2∧y.2≤F.length∧(∀m∈F.take y.1,m<n)∧(∀m∈F.drop y.2,n≤m)∧SH o w' [aF a (aD F)]) (fun y=>y.2 - y.1) (0,F.length) rfl rfl ⟨bh _,bj _,by simp,by simp,hH⟩ ?_;rintro⟨i,j⟩ w ⟨h1,h2,h3,h4,hH⟩;simp only at h1 h2 h3 h4;dsimp only;refine gh ?_;refine ifs (fun h5=>?_) (fun h5=>?_)<;>refine gh ?_
 ·refine GX.next rfl (GO.shr (c:=(((i+j) / 2:Nat):Int)) rfl rfl rfl rfl rfl (by decide) (by simp[IntKind.bits]) (gh ?_));have aP:(i+j) / 2<F.length:=by omega
  have hx:F[(i+j) / 2]?=some F[(i+j) / 2]:=by simp
  have hA:=hH.bR (x:=aF a (aD F)) (a:=a) (cs:=aD F) bL;obtain⟨b,o',rfl,jM⟩:=uJ hA hx;refine gh ?_;refine GX.next rfl (GO.rP rfl rfl rfl (jM _ ah) (gh ?_));refine GX.da (ags _ _ _) rfl rfl rfl rfl rfl rfl (gh ?_);refine ifs (fun h6=>?_) (fun h6=>?_)<;>refine gh ?_
  ·refine GQ.br ((i+j) / 2+1,j) rfl ⟨by simp only;omega,h2,fun m hm=>?_,h4,hH⟩ (by simp only;omega);rw[kQ aP] at hm;have zR:F[(i+j) / 2]<n:=by omega
   rcases cJ.1 hm with hm|hm
   ·obtain⟨k,hk⟩:=ej hm;rw[vm] at hk;split at hk
    ·rename_i kC
     have:=sv.1 hF k ((i+j) / 2) ah aP kC;rw[(aV.1 hk).2] at this;omega
    ·cases hk
   ·simp at hm;omega
  ·refine GQ.br (i,(i+j) / 2) rfl ⟨by simp only;omega,by simp only;omega,h3,fun m hm=>?_,hH⟩ (by simp only;omega);rw[p7 aP] at hm;have kB:n≤F[(i+j) / 2]:=by omega
   rcases bY.1 hm with rfl|hm
   ·exact kB
   ·obtain⟨k,hk⟩:=ej hm;rw[List.getElem?_drop] at hk;obtain⟨pL,kC⟩:=aV.1 hk;have:=sv.1 hF ((i+j) / 2) ((i+j) / 2+1+k) aP pL ah;omega
 ·obtain rfl:i=j:=by omega
  by_cases h6:i<F.length
  ·have hx:F[i]?=some F[i]:=by simp[h6]
   have hA:=hH.bR (x:=aF a (aD F)) (a:=a) (cs:=aD F) bL;obtain⟨b,o',rfl,jM⟩:=uJ hA hx;rw[show decide ((i:Int)<(F.length:Int))=true by simp;omega];refine gh ?_;refine GX.next rfl (GO.rP rfl rfl rfl (jM _ ah) (gh ?_));cases h7:decide ((F[i]:Int)=(n:Int)) with
   |true=>
    refine gh ?_;exact⟨(i,true),rfl,⟨h2,h3,h4⟩,hH.to⟩
   |false=>
    refine gh ?_;refine GX.next rfl (GO.rP rfl rfl rfl (jM _ ah) (gh ?_));refine GX.da (aeI _ _) rfl rfl rfl rfl rfl rfl (gh ?_);exact⟨(i,false),rfl,⟨h2,h3,h4⟩,hH.to⟩
  ·rw[show decide ((i:Int)<(F.length:Int))=false by simp;omega];refine gh ?_;exact⟨(i,false),rfl,⟨h2,h3,h4⟩,hH.to⟩
section
variable {P:Program}{ops:Array Oper}{Q:Exit→Act→World→Prop}{S:World→Prop}{n:Nat}
variable {i m:Nat}{p:bZ}{e:Env}{w:World}{k:Kd}{dst:Option Tmp}{ty:TypeId}{pos:String}{an:Array Edge}{g:Option (Nat×Bool)}
variable {og:Og}{l r l':List It}{b:Nat}
theorem ai8 {t tn el:TypeId}{aS:Nat}(hf:cj P t el 1 aS)(Nb:P.underlying tn=some (.int .i64)){a:Option Addr}{len cap k:Nat}{olds:List Value}(hA:bM w a olds)(hl:olds.length=len)(h0:0<k)(hg:cap<len+k)(hb:(len+k)*aS≤140737488355328)(hm:len+k≤140737488355328) :
  ∃c' w' zs,(Builtin.append_ #[t,tn] ty #[.slice a len cap, .int .i64 k]).run P w = .ok (.slice (some ⟨w.heap.size,0,none⟩) (len+k) c') w'∧zs.length=k∧aG w' el 1 (some w.heap.size) (some ⟨w.heap.size,0,none⟩) (len+k) c' (olds++zs)∧Ext w w':=by
 obtain⟨hu,ii,z,hi,jT,hs,mj,iE⟩:=hf.facts;have hold:(Builtin.firstCells ii.size len (.slice a len cap)).run P w.drew = .ok olds.toArray w.drew:=by
  cases olds with
  |nil=>
   simp at hl;subst hl;cases a with
   |none=>exact run_firstCells_none (P:=P) w.drew ii.size 0 0 cap
   |some x=>exact run_firstCells_some (P:=P) w.drew ii.size 0 x 0 cap [] (by simp) (fun j v h=>by simp at h)
  |cons v olds=>
   obtain⟨b2,o2,rfl,ry⟩:=hA.rV (by simp);exact run_firstCells_some (P:=P) w.drew ii.size len ⟨b2,o2,none⟩ len cap (v::olds) (by rw[hl,hs,kO]) fun j u hu=>by rw[ir];exact ry j u hu
 have mq:k*aS≤(len+k)*aS:=y7 _ ah;have hr:=Lib.run_append_grow_zeros (P:=P) w t tn ty el ii z .i64 .i64 hu Nb hi jT a len cap olds hold k h0 ah hg ah (by rw[mj];omega) (growslice_fits hg (by rw[mj];exact hb));have kB:=grownCap_ge w (len+k) cap el;refine⟨_,_,(Builtin.zeroCells z.cells k).toList,hr,?_,?_,(Ext.drew w).trans (Ext.alloc w.drew _)⟩
 ·rw[Array.length_toList,size_zeroCells,iE,kO]
 ·have oS:(Builtin.zeroCells z.cells k).toList.length=k:=by rw[Array.length_toList,size_zeroCells,iE,kO]
  refine aG.new ⟨by rw[bJ,hl,oS,kO], .inr ⟨w.heap.size,_,_,rfl,bh _,heap_alloc_new w.drew _,kB,grownCap_le_maxLen w (len+k) cap el (by unfold maxLen;omega),?_,?_⟩⟩
  ·simp only[Array.size_append,xh,size_zeroCells,iE,hl,kO];omega
  ·simp only[Array.toList_append,cP,kO];rw[←cP,vj (by rw[bJ,hl,oS];exact bj _),eO (by rw[bJ,hl,oS];exact bj _)]
theorem GX.KF [Fr]{x y:Operand}{t tn el:TypeId}{aS len cap c0:Nat}{a:Option Addr}{olds:List Value}(hH:SH og w l:=by assumption)(hA:bM w a olds)
  (ho:ops[i]?=some ⟨dst, .call ⟨.builtin .append,#[x,y],#[t,tn]⟩,ty,pos,an,g⟩:=by rfl) (hf:cj P t el 1 aS:=by infer_instance) (Nb:bH P tn (.int .i64):=by infer_instance) (hw:aH ops e ⟨dst, .call ⟨.builtin .append,#[x,y],#[t,tn]⟩,ty,pos,an,g⟩=some true:=by rfl) (hx:ev e x=some (.slice a len cap):=by rfl) (hy:ev e y=some (.int .i64 (c0:Nat)):=by rfl) (hd:fits n dst=true:=by rfl)
  (hl:olds.length=len) (h0:0<c0:=by omega) (hg:cap<len+c0:=by omega) (hb:(len+c0)*aS≤140737488355328:=by omega) (hm:len+c0≤140737488355328:=by omega)
  (h:∀b' c' w' zs,zs.length=c0→Ext w w'→SH og w' (ao el 1 (some b') (len+c0) c' (olds++zs)::l)→GX P ops Q (fun _=>True) n (aY (i+1) m) (e.put dst (.slice (some ⟨b',0,none⟩) (len+c0) c')) w'):GX P ops Q (fun _=>True) n (aY i (m+1)) e w:=by
 obtain⟨c',w1,zs,hr,hz,hO,hE⟩:=ai8 (ty:=ty) hf Nb.out hA hl h0 hg hb hm;refine GX.ax ho (GO.run (R:=fun v w'=>v = .slice (some ⟨w.heap.size,0,none⟩) (len+c0) c'∧w'=w1) hw hd (fun ac ha=>⟨_,_,w1,?_, .inl rfl,rfl,rfl⟩) ?_)
 ·simp[execOp,resolve,invoke,builtin,bC ha hx,bC ha hy,hr]
 ·rintro _ _ ⟨rfl,rfl⟩;exact⟨fun _ _=>trivial,h _ c' _ zs hz hE (hH.cE (q:=some w.heap.size) hE (fun k hk=>by cases hk;exact bj _) hO)⟩
theorem ahW {el:TypeId}{n c:Nat}{cs:List Value}(h:aG w el 1 (some b) (ay (some b)) n c cs)(hc:n<c):∃u,aG w el 1 (some b) (ay (some b)) (n+1) c (cs++[u]):=by
 obtain⟨h0,⟨h,_⟩|⟨b',hb,ha,hl,⟨h,_⟩|⟨g,k',cur,h,eE,hg,h1,h2,h3,h4⟩⟩⟩:=h
 ·cases h
 ·cases h
 ·cases hb;cases h;have aP:n<cur.toList.length:=by rw[Array.length_toList,h3];omega
  have h5:cur.toList.take ((n+1)*1)=cs++[cur.toList[n]]:=by rw[kO,kQ aP,←h4,kO]
  have h6:(cs++[cur.toList[n]]).length=(n+1)*1:=by rw[bJ,hl];simp
  exact⟨cur.toList[n],h6, .inr ⟨b,rfl,rfl,h6, .inr ⟨b,c,cur,rfl,eE,hg,by omega,h2,h3,h5⟩⟩⟩
theorem SH.more {el:TypeId}{n c:Nat}{cs:List Value}(hH:SH og w l)(hc:n<c)(hs:aB (ao el 1 (some b) n c cs) l r:=by repeat(first|exact aB.here|apply aB.there)):∃u,SH og w (ao el 1 (some b) (n+1) c (cs++[u])::r):=by
 obtain⟨u,hu⟩:=ahW (hH.own hs) hc;exact⟨u,SH.ly (hH.perm hs.perm) bA.here (fun _=>hu) (Mod.refl w) fun b hb => .inl hb⟩
theorem SH.cap {el:TypeId}{sz n c:Nat}{q:Option Nat}{cs:List Value}(hH:SH og w l)(hs:aB (ao el sz q n c cs) l r:=by repeat(first|exact aB.here|apply aB.there)):n≤c:=by
 obtain⟨_,⟨_,h,_,_⟩|⟨b,_,_,hl,h|⟨g,c,cur,hv,_,hg,hle,_⟩⟩⟩:=hH.own hs
 ·omega
 ·have:=h.2;omega
 ·simp only[Value.slice.injEq] at hv;omega
theorem Xh {tS tR el:TypeId}{aS:Nat}(hf:cj P tS el 1 aS){b1 b2 o n1 c1 n2 c2 N C:Nat}{cs ds:List Value}{e1 e2:TypeId}(h1:aG w e1 1 (some b1) (ay (some b1)) n1 c1 cs)(h2:aG w e2 1 (some b2) (ay (some b2)) n2 c2 ds)(hn:b1≠b2)(hc:0<n2) :
  (Extern.SlicesOverlaps.overlaps #[tS,tS] #[tR] #[.slice (some ⟨b1,0,none⟩) n1 c1, .slice (some ⟨b2,o,none⟩) N C]).run P w = .ok (.bool false) w:=by
 obtain⟨aaI,g1,_,_,k1,_⟩:=qV h1;obtain⟨aaJ,g2,_,_,k2,_⟩:=qV h2;exact Lib.run_overlaps_apart w tS tR el hf.lX 1 (fun w=>hf.XF w) ⟨b1,0,none⟩ ⟨b2,o,none⟩ n1 c1 N C hn e1 e2 aaI.size aaJ.size (by simp[World.shape?,g1]) (by simp[World.shape?,g2]) ah (by simp[World.frozen?,g1]) (by simp[World.frozen?,g1])
theorem GO.GW [Fr](hk:cB k=true){x:Operand}{t el:TypeId}{ad:Option Addr}{len cap:Nat}[hu:bH P t (.slice el)](hw:aH ops e ⟨dst, .call ⟨.builtin .cap,#[x],#[t]⟩,ty,pos,an,g⟩=some true)(hx:ev e x=some (.slice ad len cap))(hd:fits n dst=true)
  (h:GX P ops Q S n p (e.put dst (.int .i64 cap)) w):GO P ops Q S n k i ⟨dst, .call ⟨.builtin .cap,#[x],#[t]⟩,ty,pos,an,g⟩ p e w:=
 GO.val (fN hk) hw hd (fun a ha w=>by simp[execOp,resolve,invoke,builtin,Builtin.cap_,run_underlying hu.out,bC ha hx,goInt]) h
theorem GX.Qi [Fr]{x:Operand}{args:Array Operand}{ts:Array TypeId}{f:FuncId}{fs cs:Array Value}{vs:List Value}{al:List Value}{V:Value}
  (hr:(callFunc f al.toArray).run P w = .ok (.value V) w)
  (ho:ops[i]?=some ⟨dst, .call ⟨.value x,args,ts⟩,ty,pos,an,g⟩:=by rfl) (hw:aH ops e ⟨dst, .call ⟨.value x,args,ts⟩,ty,pos,an,g⟩=some true:=by rfl) (hx:ev e x=some (.func (.func f) fs cs):=by rfl) (hy:ku e args.toList=some vs:=by rfl) (hd:fits n dst=true:=by rfl)
  (b6:fs.toList++vs++cs.toList=al:=by rfl)
  (h:GX P ops Q (fun _=>True) n (aY (i+1) m) (e.put dst V) w):GX P ops Q (fun _=>True) n (aY i (m+1)) e w:=by
 refine GX.ax ho (GO.run (R:=fun v w'=>v=V∧w'=w) hw hd (fun ac ha=>⟨_,_,w,?_, .inl rfl,rfl,rfl⟩) ?_)
 ·have jP:(fs++vs.toArray++cs)=al.toArray:=by
   subst b6;apply Array.toList_inj.1;simp
  simp only[execOp,resolve,Sem.run_bind,Deferred.ofValue,bC ha hx,Hq ha hy,Sem.run_pure,Result.andThen_ok,invoke,jP,hr]
 ·rintro _ _ ⟨rfl,rfl⟩;exact⟨fun _ _=>trivial,h⟩
end
end
end Go.Proofs.YtmlpbmgfmnmmmaaGreat.V.M
