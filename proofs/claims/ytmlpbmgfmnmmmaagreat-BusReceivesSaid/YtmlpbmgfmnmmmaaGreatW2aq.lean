/-
  Parts of the proof. No condition.
-/
import Derived.Test.YtmlpbmgfmnmmmaaGreatW2al
import Derived.Test.YtmlpbmgfmnmmmaaGreatW2ap
set_option linter.unusedVariables false
set_option linter.unusedSimpArgs false
set_option maxRecDepth 8000
set_option maxHeartbeats 8000000
open Go.Proofs.Tryz
namespace Go.Proofs.YtmlpbmgfmnmmmaaGreat.V.M
section
attribute [local irreducible] GO GX
section
variable {P:Program}{ops:Array Oper}{Q:Exit→Act→World→Prop}{S:World→Prop}{n:Nat}
variable {i m:Nat}{p:bZ}{e:Env}{w:World}{k:Kd}{dst:Option Tmp}{ty:TypeId}{pos:String}{an:Array Edge}{g:Option (Nat×Bool)}
variable {og:Og}{l r l':List It}{b:Nat}
variable {κ ν:Type}{kv:κ→Value}{vv:ν→Value}[DecidableEq κ]{M:List (κ×ν)}
theorem Jn (M:List (κ×ν))(k:κ)(u v:ν):bE (bE M k u) k v=bE M k v:=by
 induction M with
 |nil=>simp[bE]
 |cons x M ih=>
  obtain⟨a,c⟩:=x;simp only[bE];split
  ·simp[bE]
  ·rename_i h
   simp only[bE,h,if_false,ih]
theorem ag5 {M:List (κ×ν)}{k:κ}{v:ν}(h:az M k=some v):bE M k v=M:=by
 induction M with
 |nil=>simp[az] at h
 |cons x M ih=>
  obtain⟨a,c⟩:=x;simp only[az] at h;simp only[bE];split at h
  ·rename_i e;cases h;subst e;simp
  ·rename_i e;rw[if_neg e,ih h]
theorem ajE (E:List MapEntry)(x:MapEntry)(f:MapEntry→MapEntry):setAt (E++[x]) E.length f=E++[f x]:=by
 induction E with
 |nil=>rfl
 |cons y E ih=>simp only[iQ,dR,setAt,ih]
def Bd (w:World)(b:Nat)(kv:κ→Value)(vv:ν→Value)(M:List (κ×ν))(k:κ)(st:Nat):Prop:=
 ∃(E:List MapEntry) (clock j:Nat) (x:MapEntry),w.heap[b]?=some (.map E.toArray clock)∧(E.map (·.born)).Nodup∧(∀x∈E,x.born<clock)∧E[j]?=some x∧x.key=kv k∧x.born=st∧∀u,EM kv vv (setAt E j (su (kv k) (vv u))) (bE M k u)
theorem Xg {w:World}(hM:dU w b kv vv M){t kt el:TypeId}(hu:P.underlying t=some (.map kt el))(hk:j6 P kv kt){z:ν}(hz:∀w,(zeroValue el).run P w = .ok (vv z) w)(k:κ) :
  ∃w' st,(Instr.mapEntry t (.map (some b)) (kv k)).run P w = .ok (.tuple #[vv ((az M k).getD z),iV (st:Nat)]) w'∧dU w' b kv vv (bE M k ((az M k).getD z))∧Bd w' b kv vv (bE M k ((az M k).getD z)) k st∧Mod (· = b) w w':=by
 obtain⟨d,hd,hs,hc,hb⟩:=hk.out;have aP:=hM.lt;have hM0:=hM;obtain⟨E,c,h1,h2,h3,h4⟩:=hM;cases hg:az M k with
 |none=>
  have hf:=DC hs 0 h2 hg;have oN:(Instr.findKey kt (kv k) E).run P w = .ok none w:=by simp[Instr.findKey,run_underlying hd,hf]
  have hn:((E++[(⟨kv k,vv z,c⟩:MapEntry)]).map (·.born)).Nodup:=by
   rw[eD,gu];refine⟨h3,by simp,fun a ha q hq e=>?_⟩;simp at hq;subst hq;subst e;obtain⟨x,hx,he⟩:=bK.1 ha;have:=h4 x hx;omega
  have hl:∀x∈E++[(⟨kv k,vv z,c⟩:MapEntry)],x.born<c+1:=by
   intro x hx
   rcases cJ.1 hx with hx|hx
   ·have:=h4 x hx;omega
   ·simp at hx;subst hx;exact Nat.lt_succ_self _
  refine⟨my w b (.map (E++[(⟨kv k,vv z,c⟩:MapEntry)]).toArray (c+1)),c,?_,⟨_,_,yK _ aP,h2.push hg,hn,hl⟩,⟨_,_,E.length,⟨kv k,vv z,c⟩,yK _ aP,hn,hl,by simp,rfl,rfl,fun u=>?_⟩,Cr _ _ _⟩
  ·simp only[Instr.mapEntry,Sem.run_bind,run_underlying hu,Result.andThen_ok,oH h1,hc,List.toList_toArray,oN,hz];rw[AP h1];simp[goInt]
  ·rw[ajE,Jn];exact h2.push hg
 |some u=>
  obtain⟨j,x,hf,hx,fg,EJ,_⟩:=DD hs 0 h2 hg;have oN:(Instr.findKey kt (kv k) E).run P w = .ok (some (0+j,vv u)) w:=by simp[Instr.findKey,run_underlying hd,hf]
  rw[nC,ag5 hg];refine⟨w,x.born,?_,hM0,⟨E,c,j,x,h1,h3,h4,hx,fg,rfl,EJ⟩,Mod.refl w⟩;simp only[Instr.mapEntry,Sem.run_bind,run_underlying hu,Result.andThen_ok,oH h1,hc,List.toList_toArray,oN];simp only[dA,List.getElem?_toArray,hx,jr,nC,fg];rw[show(Instr.keyThatStays (kv k) (kv k)).run P w = .ok (kv k) w by simp[Instr.keyThatStays,hb]];simp only[Result.andThen_ok];have he:setAt E j (fun e:MapEntry=>{ e with key:=kv k})=E:=by
   apply pb;intro q;rw[FO];split
   ·rename_i e;subst e;rw[hx,←fg];rfl
   ·rfl
  rw[O5,he,AP h1,WI h1];simp[goInt]
theorem abE {E:List MapEntry}(hn:(E.map (·.born)).Nodup){j:Nat}{x:MapEntry}(h:E[j]?=some x):E.toArray.findIdx? (fun e=>(e.born:Int) == (x.born:Int))=some j:=by
 obtain⟨hj,hx⟩:=aV.1 h;rw[List.findIdx?_toArray,C9];refine⟨hj,by simp[hx],fun q hq=>?_⟩;simp only[beq_iff_eq,Int.ofNat_inj,←hx];intro e;have:=(pj.1 hn)
 rw[sv] at this;exact this q j (by simp;omega) (by simpa using hj) hq (by simpa using e)
theorem W9 {w:World}{k:κ}{st:Nat}(hM:Bd w b kv vv M k st){t:TypeId}(u:ν) :
  ∃w',(Instr.entryStore t (.map (some b)) (iV (st:Nat)) (vv u)).run P w = .ok () w'∧dU w' b kv vv (bE M k u)∧Mod (· = b) w w':=by
 obtain⟨E,c,j,x,h1,h3,h4,hx,fg,rfl,EJ⟩:=hM;have aP:=(re.1 h1).1;refine⟨my w b (.map (setAt E j (su (kv k) (vv u))).toArray c),?_,⟨_,_,yK _ aP,EJ u,?_,?_⟩,Cr _ _ _⟩
 ·have he:setAt E j (fun e:MapEntry=>{ e with val:=vv u})=setAt E j (su (kv k) (vv u)):=by
   apply pb;intro q;rw[FO,FO];split
   ·rename_i e;subst e;rw[hx,←fg];rfl
   ·rfl
  have SF:=abE h3 hx;have hai:(asInt (iV (x.born:Nat))).run P w = .ok (x.born:Int) w:=by simp[asInt,asIntOf]
  simp only[Instr.entryStore,Sem.run_bind,oH h1,Result.andThen_ok,hai,SF];rw[O5,he,AP h1]
 ·rw[FN (f:=su (kv k) (vv u)) fun _=>rfl];exact h3
 ·intro y hy;have:y.born∈(setAt E j (su (kv k) (vv u))).map (·.born):=bK.2 ⟨y,hy,rfl⟩;rw[FN (f:=su (kv k) (vv u)) fun _=>rfl] at this;obtain⟨z,hz,he⟩:=bK.1 this;have:=h4 z hz;omega
theorem GX.Q8 [Fr]{T:Nat→Prop}{w0:World}{t kt el:TypeId}{x y:Operand}{a:κ}{Z:Value}{z:ν}(hH:SH og w l:=by assumption)(hT:T b∨gG ops i=true:=by exact .inr ai)
  (ho:ops[i]?=some ⟨dst, .mapEntry t x y,ty,pos,an,g⟩:=by rfl) (hu:bH P t (.map kt el):=by infer_instance) (hw:aH ops e ⟨dst, .mapEntry t x y,ty,pos,an,g⟩=some true:=by rfl) (hx:ev e x=some (.map (some b)):=by rfl) (hr:bA (aQ b kv vv M) (aQ b kv vv (bE M a ((az M a).getD z))) l l':=by repeat(first|exact bA.here|apply bA.there)) (hk:j6 P kv kt:=by infer_instance) (jT:me P el Z:=by infer_instance) (hz:Z=vv z:=by rfl) (hy:ev e y=some (kv a):=by rfl) (hd:fits n dst=true:=by rfl)
  (h:∀w' st,SH og w' l'→Bd w' b kv vv (bE M a ((az M a).getD z)) a st→GX P ops Q (Mod T w0) n p (e.put dst (.tuple #[vv ((az M a).getD z),iV (st:Nat)])) w'):GX P ops Q (Mod T w0) n (.ax i p) e w:=by
 subst hz;obtain⟨_,hs,_⟩:=hr.perm;have hM:dU w b kv vv M:=let⟨_,_,h,_⟩:=(hH.perm hs).head;h;obtain⟨w1,st,h1,h2,h3,h4⟩:=Xg hM hu.out hk jT.out a;refine GX.ax ho (GO.run (R:=fun u w'=>u = .tuple #[vv ((az M a).getD z),iV (st:Nat)]∧w'=w1) hw hd (fun ac ha=>⟨_,_,w1,by simp[execOp,bC ha hx,bC ha hy,h1], .inl rfl,rfl,rfl⟩) ?_);rintro _ _ ⟨rfl,rfl⟩;refine⟨fun kY hS=>?_,h _ _ (hH.uY hr h2 h4) h3⟩
 rcases hT with hT|hT
 ·exact hS.trans (h4.weaken fun k _ hk=>by subst hk;exact hT)
 ·rw[hT] at kY;cases kY
theorem GX.Q7 [Fr]{T:Nat→Prop}{w0:World}{t:TypeId}{x s y:Operand}{a:κ}{st:Nat}{v:ν}(hH:SH og w l:=by assumption)(hE:Bd w b kv vv M a st:=by assumption)(hT:T b∨gG ops i=true:=by exact .inr ai)
  (ho:ops[i]?=some ⟨none, .entryStore t x s y,ty,pos,an,g⟩:=by rfl) (hw:aH ops e ⟨none, .entryStore t x s y,ty,pos,an,g⟩=some true:=by rfl) (hx:ev e x=some (.map (some b)):=by rfl) (hs:ev e s=some (iV (st:Nat)):=by rfl) (hr:bA (aQ b kv vv M) (aQ b kv vv (bE M a v)) l l':=by repeat(first|exact bA.here|apply bA.there)) (hv:ev e y=some (vv v):=by rfl)
  (h:∀w',SH og w' l'→GX P ops Q (Mod T w0) n p e w'):GX P ops Q (Mod T w0) n (.ax i p) e w:=by
 obtain⟨w1,h1,h2,h3⟩:=W9 (P:=P) hE (t:=t) v;refine GX.ax ho (GO.run (R:=fun _ w'=>w'=w1) hw rfl (fun ac ha=>⟨.skip,undef,_,by simp[execOp,bC ha hx,bC ha hs,bC ha hv,h1], .inr ⟨rfl,rfl⟩,rfl⟩) ?_);rintro _ _ rfl;refine⟨fun kY hS=>?_,h _ (hH.uY hr h2 h3)⟩
 rcases hT with hT|hT
 ·exact hS.trans (h3.weaken fun k _ hk=>by subst hk;exact hT)
 ·rw[hT] at kY;cases kY
theorem XK {P:Program}{t el:TypeId}{aS:Nat}(hf:cj P t el 1 aS)(u v:Value):wV P t 2 [(0,[u]),(1,[v])]=some [u,v]:=by
 obtain⟨hu,ii,z,hi,oR,hs,_,_⟩:=hf.facts;unfold wV;simp only[hu,hi,oR,hs];have iA:((Array.range (2*1)).map (z.cells[· % z.cells.size]!)).toList.length=2:=by simp
 generalize ((Array.range (2*1)).map (z.cells[· % z.cells.size]!)).toList=Z at iA;obtain⟨z1,Z,rfl⟩:=List.exists_cons_of_length_pos (show 0<Z.length by omega);obtain⟨z2,Z,rfl⟩:=List.exists_cons_of_length_pos (show 0<Z.length by simp only[dR] at iA;omega);obtain rfl:Z=[]:=ga (by simp only[dR] at iA;omega);rfl
theorem GX.ajO [Fr]{t:TypeId}{x y:Operand}{u v:Value}{el:TypeId}{aS:Nat}(hH:SH og w l:=by assumption)
  (ho:ops[i]?=some ⟨dst, .buildSlice t 2 #[(0,x),(1,y)],ty,pos,an,g⟩:=by rfl) (hf:cj P t el 1 aS:=by infer_instance) (hw:aH ops e ⟨dst, .buildSlice t 2 #[(0,x),(1,y)],ty,pos,an,g⟩=some true:=by rfl) (hx:ev e x=some u:=by rfl) (hy:ev e y=some v:=by rfl) (hu:Cl u [u]:=by exact Cl.one rfl) (hv:Cl v [v]:=by exact Cl.one rfl) (jR:Nat.ble (2*aS) 140737488355328=true:=by rfl) (hd:fits n dst=true:=by rfl)
  (h:∀b w',SH og w' (ao el 1 (some b) 2 2 [u,v]::l)→GX P ops Q (fun _=>True) n (aY (i+1) m) (e.put dst (.slice (some ⟨b,0,none⟩) 2 2)) w'):GX P ops Q (fun _=>True) n (aY i (m+1)) e w:=
 GX.buildSlice (vs:=[(0,u),(1,v)]) (pl:=[(0,[u]),(1,[v])]) ho hw (by simp[hx,hy]) (by simp[hu.eq,hv.eq]) (XK hf u v) ⟨jR,rfl⟩ rfl hd fun b w' hb hO hE=>h b w' (hH.cE hE (fun k hk=>by cases hk;omega) hO)
theorem GX.ajP [Fr]{T:Nat→Prop}{w0:World}{t:TypeId}{x y:Operand}{u v:Value}{el:TypeId}{aS:Nat}(hH:SH og w l:=by assumption)
  (ho:ops[i]?=some ⟨dst, .buildSlice t 2 #[(0,x),(1,y)],ty,pos,an,g⟩:=by rfl) (hf:cj P t el 1 aS:=by infer_instance) (hw:aH ops e ⟨dst, .buildSlice t 2 #[(0,x),(1,y)],ty,pos,an,g⟩=some true:=by rfl) (hx:ev e x=some u:=by rfl) (hy:ev e y=some v:=by rfl) (hu:Cl u [u]:=by exact Cl.one rfl) (hv:Cl v [v]:=by exact Cl.one rfl) (jR:Nat.ble (2*aS) 140737488355328=true:=by rfl) (hd:fits n dst=true:=by rfl) (hT:Mod T w0 w:=by first|assumption|exact Ext.mod (by assumption))
  (h:∀b w',Mod T w0 w'→SH og w' (ao el 1 (some b) 2 2 [u,v]::l)→GX P ops Q (Mod T w0) n p (e.put dst (.slice (some ⟨b,0,none⟩) 2 2)) w'):GX P ops Q (Mod T w0) n (.ax i p) e w:=
 GX.ax ho (GO.buildSlice (vs:=[(0,u),(1,v)]) (pl:=[(0,[u]),(1,[v])]) (XK hf u v) ⟨vi jR,by decide⟩ hw (by simp[hx,hy]) (by simp[hu.eq,hv.eq]) rfl hd fun b w' hb hO hE=>⟨fun _ hS=>hS.trans hE.mod,h b w' (hT.trans hE.mod) (hH.cE hE (fun k hk=>by cases hk;omega) hO)⟩)
theorem GO.NS [Fr]{T:Nat→Prop}{w0:World}{t kt el:TypeId}{x y:Operand}{ok:Bool}{a:κ}{Z V:Value}(hH:SH og w0 l:=by assumption)(hT:¬T b:=by first|exact id|assumption|exact Cx|exact tj|exact Fu)(hS:Mod T w0 w:=by first|assumption|exact Ext.mod (by assumption))
  (hu:bH P t (.map kt el):=by infer_instance) (hw:aH ops e ⟨dst, .lookup t x y ok,ty,pos,an,g⟩=some true:=by rfl) (hx:ev e x=some (.map (some b)):=by rfl) (he:Ms b kv vv M l:=by repeat(first|exact Ms.own|exact Ms.fz|apply Ms.there)) (hy:ev e y=some (kv a):=by rfl) (hd:fits n dst=true:=by rfl)
  (hk:j6 P kv kt:=by infer_instance) (hz:me P el Z:=by infer_instance) (hV:jc vv Z ok (az M a)=V)
  (h:GX P ops Q (Mod T w0) n p (e.put dst V) w):GO P ops Q (Mod T w0) n .read i ⟨dst, .lookup t x y ok,ty,pos,an,g⟩ p e w:=by
 subst hV;exact GO.rd hS hw hd (fun ac ha w' Ak=>by simp[execOp,bC ha hx,bC ha hy,Xf ((hH.ms he).mod Ak hT) hu.out hk hz.out a ok]) h
theorem GX.CX [Fr]{T:Nat→Prop}{w0:World}{t:TypeId}{agg:Bool}{sz:Nat}{x y:Operand}{o:Nat}{v:Value}{vs cs cs':List Value}(hH:SH og w l:=by assumption)(hT:T b∨gG ops i=true:=by exact .inr ai)
  (ho:ops[i]?=some ⟨none, .store t x y,ty,pos,an,g⟩:=by rfl) (hf:aC P t agg sz:=by infer_instance) (hw:aH ops e ⟨none, .store t x y,ty,pos,an,g⟩=some true:=by rfl) (hx:ev e x=some (.pointer (some ⟨b,o,none⟩)):=by rfl) (hy:ev e y=some v:=by rfl)
  (hr:bA (aA b cs) (aA b cs') l l':=by repeat(first|exact bA.here|apply bA.there)) (hv:Cl v vs:=by first|exact Cl.agg|exact Cl.one rfl) (hl:vs.length=sz:=by rfl) (hlen:Nat.ble (o+sz) cs.length=true:=by rfl) (h1:(vs.all fun u=>u.oneCell')=true:=by rfl) (hl':Sn vs cs o cs':=by repeat(first|exact Sn.nil|apply Sn.zero|apply Sn.succ))
  (h:∀w',SH og w' l'→GX P ops Q (Mod T w0) n p e w'):GX P ops Q (Mod T w0) n (.ax i p) e w:=by
 obtain⟨_,hs,_⟩:=hr.perm;have hB:cD w b cs:=let⟨_,_,h,_⟩:=(hH.perm hs).head;h;exact GX.XX hB hT ho hw hx hy hv.eq hl hlen (fun u hu=>rj.1 h1 u hu) hl'.eq fun w' zA hm=>h w' (hH.JJ hr (fun _=>zA) hm)
end
end
section
attribute [local irreducible] GO GX aA fz aF aQ ao star
variable {o:Og}{w:World}
def oG (a b:Nat):Int:=if a<b then -1 else if b<a then 1 else 0
theorem QI (x y:Nat)(w:World):aj prog 109 [uV x,uV y].toArray w fun v w'=>v=iV (oG x y)∧w'=w:=by
 have e1:∀(z:Nat) (w:World),aj prog 180 [uV z].toArray w fun v w'=>v = .bool false∧w'=w:=fun z w=>by
  refine aj.enter func180 rfl ntmps180 rfl (gh ?_);exact⟨by simp,rfl⟩
 refine aj.enter func109 rfl ntmps109 rfl (gh ?_);refine GX.da (e1 x _) rfl rfl rfl rfl rfl rfl (gh ?_);refine GX.da (e1 y _) rfl rfl rfl rfl rfl rfl (gh ?_);refine ifs (fun h1=>?_) (fun h1=>?_)<;>refine gh ?_
 ·exact⟨by rw[oG,if_pos ah],rfl⟩
 refine ifs (fun h2=>?_) (fun h2=>?_)<;>refine gh ?_
 ·exact⟨by rw[oG,if_neg ah,if_pos ah],rfl⟩
 exact⟨by rw[oG,if_neg ah,if_neg ah],rfl⟩
theorem aaq (x y:Nat)(w:World):aj prog 350 [iV x,iV y].toArray w fun v w'=>v=iV (oG x y)∧w'=w:=by
 have e1:∀(z:Nat) (w:World),aj prog 277 [iV z].toArray w fun v w'=>v = .bool false∧w'=w:=fun z w=>by
  refine aj.enter func277 rfl ntmps277 rfl (gh ?_);exact⟨by simp,rfl⟩
 refine aj.enter func350 rfl ntmps350 rfl (gh ?_);refine GX.da (e1 x _) rfl rfl rfl rfl rfl rfl (gh ?_);refine GX.da (e1 y _) rfl rfl rfl rfl rfl rfl (gh ?_);refine ifs (fun h1=>?_) (fun h1=>?_)<;>refine gh ?_
 ·exact⟨by rw[oG,if_pos ah],rfl⟩
 refine ifs (fun h2=>?_) (fun h2=>?_)<;>refine gh ?_
 ·exact⟨by rw[oG,if_neg ah,if_pos ah],rfl⟩
 exact⟨by rw[oG,if_neg ah,if_neg ah],rfl⟩
def qU (a b:Int):Int:=if a≠0 then a else b
theorem ahH {q:Option Nat}{c:Nat}(x y:Int)(hs:Start o w [fz (ao 3 1 q 2 c [iV x,iV y])]):aj prog 108 [.slice (ay q) 2 c].toArray w (Po o (iV (qU x y)) []):=by
 have hH:=hs.sh;refine aj.enter func108 rfl ntmps108 rfl (gh ?_);obtain⟨b,rfl⟩:=hH.lR (cs:=[iV x,iV y]);refine GC.bP [3,6,7] (fun k:Nat=>[(8,iV k)]) (fun k w'=>k≤2∧(0<k→x=0)∧(1<k→y=0)∧SH o w' [fz (ao 3 1 (some b) 2 c [iV x,iV y])]) (fun k=>2 - k) 0 rfl rfl ⟨bh _,ah,ah,hH⟩ ?_;rintro k w ⟨h1,h2,h3,hH⟩;refine gh ?_;refine ifs (fun h4=>?_) (fun h4=>?_)<;>refine gh ?_
 ·rcases(show k=0∨k=1 by omega) with rfl|rfl
  ·refine GX.next rfl (GO.cG (hv:=show[iV x,iV y][0]?=some (iV x) from rfl) (h:=gh ?_));refine ifs (fun h5=>?_) (fun h5=>?_)<;>refine gh ?_
   ·exact⟨by rw[qU,if_pos h5],hH.to⟩
   ·exact GQ.br 1 rfl ⟨by omega,ah,ah,hH⟩ ah
  ·refine GX.next rfl (GO.cG (hv:=show[iV x,iV y][1]?=some (iV y) from rfl) (h:=gh ?_));refine ifs (fun h5=>?_) (fun h5=>?_)<;>refine gh ?_
   ·exact⟨by rw[qU,if_neg (by simp[h2])],hH.to⟩
   ·exact GQ.br 2 rfl ⟨by omega,ah,ah,hH⟩ ah
 ·exact⟨by rw[qU,if_neg (by simp[h2 ah]),h3 ah],hH.to⟩
def lA (x:Tm):List Value:=[iV x.1,uV x.2]
theorem nr (x:Tm):(lA x).length=2:=rfl
theorem Ye (x:Tm):∀u∈lA x,u.oneCell'=true:=by
 intro u hu
 rcases bY.1 hu with rfl|hu
 ·rfl
 ·rcases bY.1 hu with rfl|hu
  ·rfl
  ·cases hu
def Pn (x y:Tm):Int:=qU (oG x.2 y.2) (oG x.1 y.1)
def Pj (x:Tm):Prop:=x.1<1048576∧x.2<18446744073709551616
theorem alL {x y:Tm}(hx:Pj x)(hy:Pj y):Pn x y<0↔wZ x<wZ y:=by
 obtain⟨h1,h2⟩:=hx;obtain⟨h3,h4⟩:=hy;unfold Pn qU oG wZ
 repeat' split
 all_goals omega
theorem aaz (x y:Tm)(hs:Start o w []):aj prog 340 [.agg (lA x).toArray, .agg (lA y).toArray].toArray w (Po o (iV (Pn x y)) []):=by
 have hH:=hs.sh;refine aj.enter func340 rfl ntmps340 rfl (gh ?_);refine GX.cw (h:=fun a w hH=>gh ?_);refine GX.cw (h:=fun b w hH=>gh ?_);refine GC.bq (pl:=(aZ [0,6,15,21,4,10,19,25,14,29,32,35,36])) (T:=fun _=>False) (hm:=mixed) (h:=fun w hE hH=>gh ?_);refine GX.pA (hc:=QI x.2 y.2 _) (h:=gh ?_);refine GX.pA (hc:=aaq x.1 y.1 _) (h:=gh ?_);refine GX.ajP (h:=fun q w hS hH=>gh ?_);refine GX.xF (hc:=fun _ hs=>ahH (q:=some q) _ _ hs) (h:=fun w hS hH=>gh ?_);exact⟨rfl,hH.to⟩
def lD (M:List (Int×Int))(L:List Tm):Prop:=(∀(i:Nat) (x:Tm),L[i]?=some x→az M (x.1:Int)=some (i:Int))∧(∀k v,az M k=some v→∃x∈L,k=(x.1:Int))∧(M.map (·.1)).Nodup
def kE (h:Nat)(L:List Tm):It:=star fun y:{ y:Option Nat×Nat×Nat×List (Int×Int) // lD y.2.2.2 L}=>[aA h [.slice (ay y.1.1) L.length y.1.2.1, .map (some y.1.2.2.1)],ao 211 2 y.1.1 L.length y.1.2.1 (aK lA L),aQ y.1.2.2.1 iV iV y.1.2.2.2]
instance {h:Nat}{L:List Tm}:Zf (kE h L):=Zf.star fun _=>inferInstance
theorem B2 {l t:List It}{h n c b:Nat}{q:Option Nat}{cs:List Value}{L:List Tm}{M:List (Int×Int)}(hH:SH o w l)(hM:lD M L)(hp:Pk l [aA h [.slice (ay q) n c, .map (some b)],ao 211 2 q n c cs,aQ b iV iV M] t:=by repeat(first|exact Pk.nil|(apply Pk.cons;repeat(first|exact aB.here|apply aB.there))))(e1:n=L.length:=by rfl)(e2:cs=aK lA L:=by rfl):SH o w (kE h L::t):=by
 subst e1 e2;exact SH.fold (f:=fun y:{ y:Option Nat×Nat×Nat×List (Int×Int) // lD y.2.2.2 L}=>[aA h [.slice (ay y.1.1) L.length y.1.2.1, .map (some y.1.2.2.1)],ao 211 2 y.1.1 L.length y.1.2.1 (aK lA L),aQ y.1.2.2.1 iV iV y.1.2.2.2]) ⟨(q,c,b,M),hM⟩ hH hp
def j7 (L:List Tm):Prop:=(∀x∈L,Pj x)∧L.length≤1048576
theorem Nv {h:Nat}{L:List Tm}(hs:Start o w [fz (kE h L)]):aj prog 200 [ak h].toArray w (Po o (.bool false) []):=by
 have hH:=hs.sh;obtain⟨⟨⟨q,c,b,M⟩,hM⟩,hH⟩:=SH.dQ hH;replace hH:=SH.dW hH;dsimp only at hH;refine aj.enter func200 rfl ntmps200 rfl (gh ?_);refine GX.next rfl (GO.NY rfl rfl rfl rfl rfl (gh ?_));exact⟨rfl,hH.to⟩
theorem NI {L:List Tm}{i:Nat}(h:i<L.length):cX L i=wZ L[i]:=Uk (bO h)
theorem Dk {h:Nat}{L:List Tm}(hL:j7 L)(i k:Nat)(hi:i<L.length)(hk:k<L.length)(hs:Start o w [fz (kE h L)]):aj prog 303 [ak h,iV i,iV k].toArray w (Po o (.bool (decide (cX L i<cX L k))) []):=by
 have hH:=hs.sh;have hlen:=hL.2;obtain⟨⟨⟨q,c,b,M⟩,hM⟩,hH⟩:=SH.dQ hH;replace hH:=SH.dW hH;dsimp only at hH;obtain⟨a,rfl⟩:=hH.lR (cs:=aK lA L);refine aj.enter func303 rfl ntmps303 rfl (gh ?_);refine GC.bq (pl:=(aZ [0,3,6,12,21,24,27,33,10,15,19,31,36,40,44,45,48])) (T:=fun _=>False) (hm:=mixed) (h:=fun w hE hH=>gh ?_);refine GX.read rfl (GO.yz (hv:=jj nr (bO hi)) (h:=gh ?_));refine GX.read rfl (GO.yz (hv:=jj nr (bO hk)) (h:=gh ?_));refine GX.xF (hc:=fun _ hs=>aaz L[i] L[k] hs) (h:=fun w hS hH=>gh ?_);refine⟨?_,hH.to⟩;rw[NI hi,NI hk];simp only[alL (hL.1 _ (ot hi)) (hL.1 _ (ot hk))]
theorem lD.uniq {M:List (Int×Int)}{L:List Tm}(h:lD M L){i j:Nat}{x y:Tm}(hx:L[i]?=some x)(hy:L[j]?=some y)(e:x.1=y.1):i=j:=by
 have h1:=h.1 i x hx;have h2:=h.1 j y hy;rw[e,h2] at h1;exact(Int.ofNat.inj (Option.some.inj h1)).symm
theorem lD.swap {M:List (Int×Int)}{L:List Tm}(h:lD M L){i k:Nat}(hi:i<L.length)(hk:k<L.length){xi xk:Tm}(yh:(f' L i k)[i]?=some xi)(fg:(f' L i k)[k]?=some xk):lD (bE (bE M (xi.1:Int) (i:Int)) (xk.1:Int) (k:Int)) (f' L i k):=by
 have LF:L[i]?=some xk:=by rw[yX hi hk,if_pos rfl] at fg;exact fg
 have LG:L[k]?=some xi:=by
  rw[yX hi hk,if_pos rfl] at yh;split at yh
  ·rename_i e;rw[←e];exact yh
  ·exact yh
 refine⟨fun j x hx=>?_,fun kk v hv=>?_,rU (rU h.2.2 _ _) _ _⟩
 ·rw[yX hi hk] at hx;rw[kI,kI];split at hx
  ·rename_i e
   rw[LF] at hx;cases hx;rw[if_pos rfl,e]
  ·rename_i e1
   split at hx
   ·rename_i e2
    rw[LG] at hx;cases hx;rw[if_neg (fun e=>e1 (e2.trans (h.uniq LF LG ah))),if_pos rfl,e2]
   ·rename_i e2
    rw[if_neg (fun e=>e2 (h.uniq hx LF ah)),if_neg (fun e=>e1 (h.uniq hx LG ah))];exact h.1 j x hx
 ·rw[kI,kI] at hv;split at hv
  ·exact⟨xk,bF fg,by assumption⟩
  ·split at hv
   ·exact⟨xi,bF yh,by assumption⟩
   ·obtain⟨x,hx,e⟩:=h.2.1 kk v hv;exact⟨x,(CY hi hk).mem_iff.2 hx,e⟩
theorem Ph {h:Nat}{L:List Tm}(hlen:L.length≤1048576)(i k:Nat)(hi:i<L.length)(hk:k<L.length)(hs:Start o w [kE h L]):aj prog 248 [ak h,iV i,iV k].toArray w (Po o (.tuple #[]) [kE h (f' L i k)]):=by
 have hH:=hs.sh;obtain⟨⟨⟨q,c,b,M⟩,hM⟩,hH⟩:=SH.un hH;replace hH:=SH.ap hH;dsimp only at hH;obtain⟨a,rfl⟩:=hH.pos (cs:=aK lA L);refine aj.enter func248 rfl ntmps248 rfl (gh ?_);refine GC.bq (pl:=(aZ [0,3,6,12,15,18,21,27,30,33,36,42,51,54,57,63,10,25,40,45,49,61,66,70,72,77,78,83])) (T:=fun _=>False) (hm:=mixed) (h:=fun w hE hH=>gh ?_);refine GX.read rfl (GO.yz (hv:=jj nr (bO hk)) (h:=gh ?_));refine GX.read rfl (GO.yz (hv:=jj nr (bO hi)) (h:=gh ?_));refine GX.gH (hb:=by rw[gQ nr,nr];simp;omega) (hc:=show _=aK lA (L.set i L[k]) from(by rw[show 0+((i:Nat):Int).toNat*2=i*2 by simp];exact AN nr hi L[k])) (h:=fun w hH=>gh ?_);refine GX.gH (hb:=by rw[gQ nr,nr];simp;omega) (hc:=show _=aK lA (f' L i k) from(by rw[show 0+((k:Nat):Int).toNat*2=k*2 by simp,Pf (bO hi) (bO hk)];exact AN nr (by simp;exact hk) L[i])) (h:=fun w hH=>gh ?_);have dY:∀j,(f' L i k)[j]?=if j=k then L[i]? else if j=i then L[k]? else L[j]?:=yX hi hk
 have IN:∃x,(f' L i k)[i]?=some x:=⟨_,bO (by rw[pZ];exact hi)⟩
 have hsk:∃x,(f' L i k)[k]?=some x:=⟨_,bO (by rw[pZ];exact hk)⟩
 obtain⟨xi,yh⟩:=IN;obtain⟨xk,fg⟩:=hsk;refine gh ?_;refine GC.bq (pl:=(aZ [0,3,6,12,15,18,24,36,39,42,48,51,54,60,72,75,10,22,27,30,34,46,58,63,66,70,80,81,86,89,90,95])) (T:=fun _=>False) (hm:=mixed) (h:=fun w hE hH=>gh ?_);refine GX.read rfl (GO.jU (hv:=by simpa using nj nr yh (j:=0) rfl) (h:=gh ?_));refine GX.read rfl (GO.jU (hv:=by simpa using nj nr fg (j:=0) rfl) (h:=gh ?_));refine GX.Q8 (z:=(0:Int)) (h:=fun w st hH hE=>gh ?_);refine GX.Q7 (h:=fun w hH=>gh ?_);refine GX.Q8 (z:=(0:Int)) (h:=fun w st hH hE=>gh ?_);refine GX.Q7 (h:=fun w hH=>gh ?_);rw[Jn,Jn] at hH;exact⟨rfl,(B2 hH (hM.swap hi hk yh fg) (e1:=(pZ L i k).symm)).to⟩
theorem j7.swap {L:List Tm}(h:j7 L){i k:Nat}(hi:i<L.length)(hk:k<L.length):j7 (f' L i k):=⟨fun x hx=>h.1 x ((CY hi hk).mem_iff.1 hx),by rw[pZ];exact h.2⟩
theorem aip (i:Nat)(h:i<2^40):IntKind.i64.wrap (((i:Int) - 1).tdiv 2)=(((i - 1) / 2:Nat):Int):=by
 cases i with
 |zero=>decide
 |succ i=>
  rw[show((i+1:Nat):Int) - 1=(i:Int) by omega,show i+1 - 1=i by omega,show((i:Int).tdiv 2)=((i / 2:Nat):Int) from(Int.ofNat_tdiv i 2).symm];exact kN ⟨by omega,by omega⟩
theorem al8 {h:Nat}{L:List Tm}(hL:j7 L)(i:Nat)(hi:i<L.length)(hs:Start o w [fz (kE h L)]):aj prog 304 [.func (.func 303) #[ak h] #[],iV i].toArray w (Po o (.tuple #[iV ((i - 1) / 2:Nat), .bool (decide (0<i∧cX L i<cX L ((i - 1) / 2)))]) []):=by
 have hH:=hs.sh;have hlen:=hL.2;refine aj.enter func304 rfl ntmps304 rfl (gh ?_);refine GX.next rfl (GO.quo rfl rfl rfl rfl rfl ah (c:=(((i - 1) / 2:Nat):Int)) (aip i ah) (gh ?_));refine ifs (fun h1=>?_) (fun h1=>?_)<;>refine gh ?_
 ·refine GX.aL (hc:=fun _ hs=>Dk hL i ((i - 1) / 2) hi ah hs) (h:=fun w hE hH=>gh ?_);refine⟨?_,hH.to⟩;simp[show 0<i by omega]
 ·refine⟨?_,hH.to⟩;simp[show i=0 by omega]
def A4 (L:List Tm)(i:Nat)(y:Nat×Bool):Prop:=
 (y.2=true∧y.1<L.length∧0<y.1∧(y.1 - 1) / 2=i∧(∀c,0<c→c<L.length→(c - 1) / 2=i→cX L y.1≤cX L c)∧cX L y.1<cX L i)∨(y.2=false∧∀c,0<c→c<L.length→(c - 1) / 2=i→cX L i≤cX L c)
theorem A4.of {L:List Tm}{i k:Nat}(h1:k<L.length)(h2:0<k)(h3:(k - 1) / 2=i)(h4:∀c,0<c→c<L.length→(c - 1) / 2=i→cX L k≤cX L c):A4 L i (k,decide (cX L k<cX L i)):=by
 by_cases h:cX L k<cX L i
 ·exact .inl ⟨by simp[h],h1,h2,h3,h4,h⟩
 ·exact .inr ⟨by simp[h],fun c c0 cl ci=>eh (Nat.le_of_not_lt h) (h4 c c0 cl ci)⟩
theorem aaR {h:Nat}{L:List Tm}(hL:j7 L)(i:Nat)(hi:i<L.length)(hs:Start o w [fz (kE h L)]):aj prog 306 [ak h,iV i].toArray w (aU o (fun y:Nat×Bool => .tuple #[iV y.1, .bool y.2]) (A4 L i) (fun _=>[])):=by
 have gO:=hs.sh;have hlen:=hL.2;have hH:=gO;obtain⟨⟨⟨q,c,b,M⟩,hM⟩,hH⟩:=SH.dQ hH;replace hH:=SH.dW hH;dsimp only at hH;refine aj.enter func306 rfl ntmps306 rfl (gh ?_);have e2:2*(i:Int)+1+1=((2*i+2:Nat):Int):=by omega
 have e1:2*(i:Int)+1=((2*i+1:Nat):Int):=by omega
 refine ifs (fun h1=>?_) (fun h1=>?_)<;>refine gh ?_
 ·replace hH:=gO;clear gO;rw[e2,e1];refine GX.aL (hc:=fun _ hs=>Dk hL (2*i+2) (2*i+1) ah ah hs) (h:=fun w hE hH=>gh ?_);refine ifs (fun h2=>?_) (fun h2=>?_)<;>refine gh ?_
  ·have gO:=hH;obtain⟨⟨⟨q,c,b,M⟩,hM⟩,hH⟩:=SH.dQ hH;replace hH:=SH.dW hH;dsimp only at hH;refine gh ?_;refine ifs (fun h3=>?_) (fun h3=>?_)<;>refine gh ?_
   ·replace hH:=gO;clear gO;rw[show((2*i+1:Nat):Int)+1=((2*i+2:Nat):Int) by omega];refine GX.aL (hc:=fun _ hs=>Dk hL (2*i+2) i ah hi hs) (h:=fun w hE hH=>gh ?_);exact⟨(2*i+2,_),rfl,A4.of ah ah ah (fun c c0 cl ci=>by rcases(show c=2*i+1∨c=2*i+2 by omega) with rfl|rfl<;>omega),hH.to⟩
   ·omega
  ·have gO:=hH;obtain⟨⟨⟨q,c,b,M⟩,hM⟩,hH⟩:=SH.dQ hH;replace hH:=SH.dW hH;dsimp only at hH;refine gh ?_;refine ifs (fun h3=>?_) (fun h3=>?_)<;>refine gh ?_
   ·replace hH:=gO;clear gO;refine GX.aL (hc:=fun _ hs=>Dk hL (2*i+1) i ah hi hs) (h:=fun w hE hH=>gh ?_);exact⟨(2*i+1,_),rfl,A4.of ah ah ah (fun c c0 cl ci=>by rcases(show c=2*i+1∨c=2*i+2 by omega) with rfl|rfl<;>omega),hH.to⟩
   ·omega
 ·refine ifs (fun h3=>?_) (fun h3=>?_)<;>refine gh ?_
  ·replace hH:=gO;clear gO;rw[e1];refine GX.aL (hc:=fun _ hs=>Dk hL (2*i+1) i ah hi hs) (h:=fun w hE hH=>gh ?_);exact⟨(2*i+1,_),rfl,A4.of ah ah ah (fun c c0 cl ci=>by obtain rfl:c=2*i+1:=ah;exact bj _),hH.to⟩
  ·exact⟨(2*i+1,false),by rw[e1], .inr ⟨rfl,fun c c0 cl ci=>by omega⟩,hH.to⟩
theorem alC {L:List Tm}{i k:Nat}(hi:i<L.length)(hk:k<L.length):f' L i k=f' L k i:=by
 apply pb;intro j;rw[yX hi hk,yX hk hi]
 by_cases h1:j=k
 ·by_cases h2:j=i
  ·rw[if_pos h1,if_pos h2,←h1,←h2]
  ·rw[if_pos h1,if_neg h2,if_pos h1]
 ·rw[if_neg h1]
  by_cases h2:j=i
  ·rw[if_pos h2,if_pos h2]
  ·rw[if_neg h2,if_neg h2,if_neg h1]
theorem aag {h:Nat}{L:List Tm}(hL:j7 L)(i:Nat)(hi:i<L.length)(hB:Dc L i)(hs:Start o w [kE h L]) :
  aj prog 302 [.func (.func 303) #[ak h] #[],iV i, .func (.func 304) #[] #[], .func (.func 248) #[ak h] #[]].toArray w (aU o (fun _:List Tm => .tuple #[]) (fun L'=>L'.Perm L∧j7 L'∧tN L' i) (fun L'=>[kE h L'])):=by
 have hH:=hs.sh;refine aj.enter func302 rfl ntmps302 rfl (gh ?_);refine GC.bP [0,2,3] (fun x:List Tm×Nat=>[(1,iV x.2)]) (fun x w'=>x.1.Perm L∧j7 x.1∧x.2<x.1.length∧A8 x.1 i x.2∧SH o w' [kE h x.1]) (fun x=>x.2) (L,i) rfl rfl ⟨.refl _,hL,hi,⟨hB, .inl rfl⟩,hH⟩ ?_;rintro⟨N,p⟩ w ⟨hP,hN,hp,hU,hH⟩;simp only at hP hN hp hU hH;refine gh ?_;refine GX.aL (hc:=fun _ hs=>al8 hN p hp hs) (h:=fun w hE hH=>gh ?_);refine ifs (fun h1=>?_) (fun h1=>?_)<;>refine gh ?_
 ·refine⟨N,rfl,⟨hP,hN,hU.stop fun h0=>by simp at h1;exact h1 h0⟩,hH.to⟩
 ·refine GX.bz (hc:=fun _ hs=>Ph hN.2 p ((p - 1) / 2) hp ah hs) (h:=fun w hH=>gh ?_);exact GQ.br (f' N p ((p - 1) / 2),(p - 1) / 2) rfl ⟨(CY hp ah).trans hP,hN.swap hp ah,by rw[pZ];omega,hU.step h1.1 hp h1.2,hH⟩ (by simp only;omega)
theorem aaf {h:Nat}{L:List Tm}(hL:j7 L)(i:Nat)(hi:i<L.length)(hB:tN L i)(hs:Start o w [kE h L]) :
  aj prog 305 [ak h,iV i, .func (.func 306) #[] #[], .func (.func 248) #[ak h] #[]].toArray w (aU o (fun _:List Tm => .tuple #[]) (fun L'=>L'.Perm L∧j7 L'∧Hp L') (fun L'=>[kE h L'])):=by
 have hH:=hs.sh;refine aj.enter func305 rfl ntmps305 rfl (gh ?_);refine GC.bP [0,2,3] (fun x:List Tm×Nat=>[(1,iV x.2)]) (fun x w'=>x.1.Perm L∧j7 x.1∧x.2<x.1.length∧tN x.1 x.2∧SH o w' [kE h x.1]) (fun x=>x.1.length - x.2) (L,i) rfl rfl ⟨.refl _,hL,hi,hB,hH⟩ ?_;rintro⟨N,p⟩ w ⟨hP,hN,hp,hU,hH⟩;simp only at hP hN hp hU hH;refine gh ?_;refine GX.dX (hc:=fun _ hs=>aaR hN p hp hs) (h:=?_);rintro⟨k,m⟩ w hC hE hH;replace hH:=SH.ap hH;refine gh ?_
 rcases hC with⟨rfl,hk,k0,kp,hm,hl⟩|⟨rfl,hm⟩
 ·simp only at hk k0 kp hm hl;refine gh ?_;refine GX.bz (hc:=fun _ hs=>Ph hN.2 p k hp hk hs) (h:=fun w hH=>gh ?_);rw[alC hp hk] at hH;exact GQ.br (f' N k p,k) rfl ⟨(CY hk hp).trans hP,hN.swap hk hp,by rw[pZ];exact hk,hU.step k0 hk kp hm hl,hH⟩ (by simp only[pZ];omega)
 ·refine gh ?_;exact⟨N,rfl,⟨hP,hN,hU.stop hm⟩,hH.to⟩
theorem XA {h:Nat}{L:List Tm}(hL:j7 L)(i:Nat)(hi:i<L.length)(hB:Dc L i)(hs:Start o w [kE h L]) :
  aj prog 249 [ak h,iV i].toArray w (aU o (fun _:List Tm => .tuple #[]) (fun L'=>L'.Perm L∧j7 L'∧Hp L') (fun L'=>[kE h L'])):=by
 have hH:=hs.sh;refine aj.enter func249 rfl ntmps249 rfl (gh ?_);refine GX.bS (hc:=fun _ hs=>aag hL i hi hB hs) (h:=?_);rintro N w ⟨hP,hN,hD⟩ hH;replace hH:=SH.ap hH;refine gh ?_;refine GX.bS (hc:=fun _ hs=>aaf hN i (by rw[hP.length_eq];exact hi) hD hs) (h:=?_);rintro N2 w ⟨fD,DU,zD⟩ hH;replace hH:=SH.ap hH;refine gh ?_;exact⟨N2,rfl,⟨fD.trans hP,DU,zD⟩,hH.to⟩
end
end Go.Proofs.YtmlpbmgfmnmmmaaGreat.V.M
