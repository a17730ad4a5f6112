/-
  Parts of the proof. No condition.
-/
import Derived.Test.YtoloaehmppcjoaaGreatW2al
import Derived.Test.YtoloaehmppcjoaaGreatW2ao
set_option linter.unusedVariables false
set_option linter.unusedSimpArgs false
set_option maxRecDepth 8000
set_option maxHeartbeats 8000000
open Go.Proofs.Tryz
namespace Go.Proofs.YtoloaehmppcjoaaGreat.V.M
section
attribute [local irreducible] GO GX
section
variable {P:Program}{ops:Array Oper}{Q:Exit→Act→World→Prop}{S:World→Prop}{n:Nat}
variable {i m:Nat}{p:b6}{e:Env}{w:World}{k:Kd}{dst:Option Tmp}{ty:TypeId}{pos:String}{an:Array Edge}{g:Option (Nat×Bool)}
variable {og:Og}{l r l':List It}{b:Nat}
variable {κ ν:Type}{kv:κ→Value}{vv:ν→Value}[DecidableEq κ]{M:List (κ×ν)}
theorem Jx (M:List (κ×ν))(k:κ)(u v:ν):bC (bC M k u) k v=bC M k v:=by
 induction M with
 |nil=>simp[bC]
 |cons x M ih=>
  obtain⟨a,c⟩:=x;simp only[bC];split
  ·simp[bC]
  ·rename_i h
   simp only[bC,h,if_false,ih]
theorem ag3 {M:List (κ×ν)}{k:κ}{v:ν}(h:ay M k=some v):bC M k v=M:=by
 induction M with
 |nil=>simp[ay] at h
 |cons x M ih=>
  obtain⟨a,c⟩:=x;simp only[ay] at h;simp only[bC];split at h
  ·rename_i e;cases h;subst e;simp
  ·rename_i e;rw[if_neg e,ih h]
theorem ajw (E:List MapEntry)(x:MapEntry)(f:MapEntry→MapEntry):setAt (E++[x]) E.length f=E++[f x]:=by
 induction E with
 |nil=>rfl
 |cons y E ih=>simp only[jK,ek,setAt,ih]
def Bd (w:World)(b:Nat)(kv:κ→Value)(vv:ν→Value)(M:List (κ×ν))(k:κ)(st:Nat):Prop:=
 ∃(E:List MapEntry) (clock j:Nat) (x:MapEntry),w.heap[b]?=some (.map E.toArray clock)∧(E.map (·.born)).Nodup∧(∀x∈E,x.born<clock)∧E[j]?=some x∧x.key=kv k∧x.born=st∧∀u,EM kv vv (setAt E j (sO (kv k) (vv u))) (bC M k u)
theorem Xi {w:World}(hM:dY w b kv vv M){t kt el:TypeId}(hu:P.underlying t=some (.map kt el))(hk:kE P kv kt){z:ν}(hz:∀w,(zeroValue el).run P w = .ok (vv z) w)(k:κ) :
  ∃w' st,(Instr.mapEntry t (.map (some b)) (kv k)).run P w = .ok (.tuple #[vv ((ay M k).getD z),iV (st:Nat)]) w'∧dY w' b kv vv (bC M k ((ay M k).getD z))∧Bd w' b kv vv (bC M k ((ay M k).getD z)) k st∧Mod (· = b) w w':=by
 obtain⟨d,hd,hs,hc,hb⟩:=hk.out;have aN:=hM.lt;have hM0:=hM;obtain⟨E,c,h1,h2,h3,h4⟩:=hM;cases hg:ay M k with
 |none=>
  have hf:=DF hs 0 h2 hg;have o7:(Instr.findKey kt (kv k) E).run P w = .ok none w:=by simp[Instr.findKey,run_underlying hd,hf]
  have hn:((E++[(⟨kv k,vv z,c⟩:MapEntry)]).map (·.born)).Nodup:=by
   rw[eA,ga];refine⟨h3,by simp,fun a ha q hq e=>?_⟩;simp at hq;subst hq;subst e;obtain⟨x,hx,he⟩:=bG.1 ha;have:=h4 x hx;omega
  have hl:∀x∈E++[(⟨kv k,vv z,c⟩:MapEntry)],x.born<c+1:=by
   intro x hx
   rcases cx.1 hx with hx|hx
   ·have:=h4 x hx;omega
   ·simp at hx;subst hx;exact Nat.lt_succ_self _
  refine⟨mR w b (.map (E++[(⟨kv k,vv z,c⟩:MapEntry)]).toArray (c+1)),c,?_,⟨_,_,yN _ aN,h2.push hg,hn,hl⟩,⟨_,_,E.length,⟨kv k,vv z,c⟩,yN _ aN,hn,hl,by simp,rfl,rfl,fun u=>?_⟩,Cp _ _ _⟩
  ·simp only[Instr.mapEntry,Sem.run_bind,run_underlying hu,Result.andThen_ok,oY h1,hc,List.toList_toArray,o7,hz];rw[AO h1];simp[goInt]
  ·rw[ajw,Jx];exact h2.push hg
 |some u=>
  obtain⟨j,x,hf,hx,eS,Ad,_⟩:=DG hs 0 h2 hg;have o7:(Instr.findKey kt (kv k) E).run P w = .ok (some (0+j,vv u)) w:=by simp[Instr.findKey,run_underlying hd,hf]
  rw[oN,ag3 hg];refine⟨w,x.born,?_,hM0,⟨E,c,j,x,h1,h3,h4,hx,eS,rfl,Ad⟩,Mod.refl w⟩;simp only[Instr.mapEntry,Sem.run_bind,run_underlying hu,Result.andThen_ok,oY h1,hc,List.toList_toArray,o7];simp only[dz,List.getElem?_toArray,hx,jV,oN,eS];rw[show(Instr.keyThatStays (kv k) (kv k)).run P w = .ok (kv k) w by simp[Instr.keyThatStays,hb]];simp only[Result.andThen_ok];have he:setAt E j (fun e:MapEntry=>{ e with key:=kv k})=E:=by
   apply pB;intro q;rw[FV];split
   ·rename_i e;subst e;rw[hx,←eS];rfl
   ·rfl
  rw[O6,he,AO h1,WK h1];simp[goInt]
theorem abI {E:List MapEntry}(hn:(E.map (·.born)).Nodup){j:Nat}{x:MapEntry}(h:E[j]?=some x):E.toArray.findIdx? (fun e=>(e.born:Int) == (x.born:Int))=some j:=by
 obtain⟨hj,hx⟩:=aV.1 h;rw[List.findIdx?_toArray,y6];refine⟨hj,by simp[hx],fun q hq=>?_⟩;simp only[beq_iff_eq,Int.ofNat_inj,←hx];intro e;have:=(pM.1 hn)
 rw[sP] at this;exact this q j (by simp;omega) (by simpa using hj) hq (by simpa using e)
theorem Xc {w:World}{k:κ}{st:Nat}(hM:Bd w b kv vv M k st){t:TypeId}(u:ν) :
  ∃w',(Instr.entryStore t (.map (some b)) (iV (st:Nat)) (vv u)).run P w = .ok () w'∧dY w' b kv vv (bC M k u)∧Mod (· = b) w w':=by
 obtain⟨E,c,j,x,h1,h3,h4,hx,eS,rfl,Ad⟩:=hM;have aN:=(rA.1 h1).1;refine⟨mR w b (.map (setAt E j (sO (kv k) (vv u))).toArray c),?_,⟨_,_,yN _ aN,Ad u,?_,?_⟩,Cp _ _ _⟩
 ·have he:setAt E j (fun e:MapEntry=>{ e with val:=vv u})=setAt E j (sO (kv k) (vv u)):=by
   apply pB;intro q;rw[FV,FV];split
   ·rename_i e;subst e;rw[hx,←eS];rfl
   ·rfl
  have SC:=abI h3 hx;have hai:(asInt (iV (x.born:Nat))).run P w = .ok (x.born:Int) w:=by simp[asInt,asIntOf]
  simp only[Instr.entryStore,Sem.run_bind,oY h1,Result.andThen_ok,hai,SC];rw[O6,he,AO h1]
 ·rw[FU (f:=sO (kv k) (vv u)) fun _=>rfl];exact h3
 ·intro y hy;have:y.born∈(setAt E j (sO (kv k) (vv u))).map (·.born):=bG.2 ⟨y,hy,rfl⟩;rw[FU (f:=sO (kv k) (vv u)) fun _=>rfl] at this;obtain⟨z,hz,he⟩:=bG.1 this;have:=h4 z hz;omega
theorem GX.Q6 [Fr]{T:Nat→Prop}{w0:World}{t kt el:TypeId}{x y:Operand}{a:κ}{Z:Value}{z:ν}(hH:SH og w l:=by assumption)(hT:T b∨gS ops i=true:=by exact .inr ai)
  (ho:ops[i]?=some ⟨dst, .mapEntry t x y,ty,pos,an,g⟩:=by rfl) (hu:bI P t (.map kt el):=by infer_instance) (hw:aI ops e ⟨dst, .mapEntry t x y,ty,pos,an,g⟩=some true:=by rfl) (hx:ev e x=some (.map (some b)):=by rfl) (hr:bA (aS b kv vv M) (aS b kv vv (bC M a ((ay M a).getD z))) l l':=by repeat(first|exact bA.here|apply bA.there)) (hk:kE P kv kt:=by infer_instance) (kf:mv P el Z:=by infer_instance) (hz:Z=vv z:=by rfl) (hy:ev e y=some (kv a):=by rfl) (hd:fits n dst=true:=by rfl)
  (h:∀w' st,SH og w' l'→Bd w' b kv vv (bC M a ((ay M a).getD z)) a st→GX P ops Q (Mod T w0) n p (e.put dst (.tuple #[vv ((ay M a).getD z),iV (st:Nat)])) w'):GX P ops Q (Mod T w0) n (.aw i p) e w:=by
 subst hz;obtain⟨_,hs,_⟩:=hr.perm;have hM:dY w b kv vv M:=let⟨_,_,h,_⟩:=(hH.perm hs).head;h;obtain⟨w1,st,h1,h2,h3,h4⟩:=Xi hM hu.out hk kf.out a;refine GX.aw ho (GO.run (R:=fun u w'=>u = .tuple #[vv ((ay M a).getD z),iV (st:Nat)]∧w'=w1) hw hd (fun ac ha=>⟨_,_,w1,by simp[execOp,bE ha hx,bE ha hy,h1], .inl rfl,rfl,rfl⟩) ?_);rintro _ _ ⟨rfl,rfl⟩;refine⟨fun lz hS=>?_,h _ _ (hH.vi hr h2 h4) h3⟩
 rcases hT with hT|hT
 ·exact hS.trans (h4.weaken fun k _ hk=>by subst hk;exact hT)
 ·rw[hT] at lz;cases lz
theorem GX.Q5 [Fr]{T:Nat→Prop}{w0:World}{t:TypeId}{x s y:Operand}{a:κ}{st:Nat}{v:ν}(hH:SH og w l:=by assumption)(hE:Bd w b kv vv M a st:=by assumption)(hT:T b∨gS ops i=true:=by exact .inr ai)
  (ho:ops[i]?=some ⟨none, .entryStore t x s y,ty,pos,an,g⟩:=by rfl) (hw:aI ops e ⟨none, .entryStore t x s y,ty,pos,an,g⟩=some true:=by rfl) (hx:ev e x=some (.map (some b)):=by rfl) (hs:ev e s=some (iV (st:Nat)):=by rfl) (hr:bA (aS b kv vv M) (aS b kv vv (bC M a v)) l l':=by repeat(first|exact bA.here|apply bA.there)) (hv:ev e y=some (vv v):=by rfl)
  (h:∀w',SH og w' l'→GX P ops Q (Mod T w0) n p e w'):GX P ops Q (Mod T w0) n (.aw i p) e w:=by
 obtain⟨w1,h1,h2,h3⟩:=Xc (P:=P) hE (t:=t) v;refine GX.aw ho (GO.run (R:=fun _ w'=>w'=w1) hw rfl (fun ac ha=>⟨.skip,undef,_,by simp[execOp,bE ha hx,bE ha hs,bE ha hv,h1], .inr ⟨rfl,rfl⟩,rfl⟩) ?_);rintro _ _ rfl;refine⟨fun lz hS=>?_,h _ (hH.vi hr h2 h3)⟩
 rcases hT with hT|hT
 ·exact hS.trans (h3.weaken fun k _ hk=>by subst hk;exact hT)
 ·rw[hT] at lz;cases lz
theorem XL {P:Program}{t el:TypeId}{aT:Nat}(hf:cr P t el 1 aT)(u v:Value):xh P t 2 [(0,[u]),(1,[v])]=some [u,v]:=by
 obtain⟨hu,ii,z,hi,pc,hs,_,_⟩:=hf.facts;unfold xh;simp only[hu,hi,pc,hs];have jf:((Array.range (2*1)).map (z.cells[· % z.cells.size]!)).toList.length=2:=by simp
 generalize ((Array.range (2*1)).map (z.cells[· % z.cells.size]!)).toList=Z at jf;obtain⟨z1,Z,rfl⟩:=List.exists_cons_of_length_pos (show 0<Z.length by omega);obtain⟨z2,Z,rfl⟩:=List.exists_cons_of_length_pos (show 0<Z.length by simp only[ek] at jf;omega);obtain rfl:Z=[]:=gu (by simp only[ek] at jf;omega);rfl
theorem GX.XJ [Fr]{t:TypeId}{x y:Operand}{u v:Value}{el:TypeId}{aT:Nat}(hH:SH og w l:=by assumption)
  (ho:ops[i]?=some ⟨dst, .buildSlice t 2 #[(0,x),(1,y)],ty,pos,an,g⟩:=by rfl) (hf:cr P t el 1 aT:=by infer_instance) (hw:aI ops e ⟨dst, .buildSlice t 2 #[(0,x),(1,y)],ty,pos,an,g⟩=some true:=by rfl) (hx:ev e x=some u:=by rfl) (hy:ev e y=some v:=by rfl) (hu:Cl u [u]:=by exact Cl.one rfl) (hv:Cl v [v]:=by exact Cl.one rfl) (j8:Nat.ble (2*aT) 140737488355328=true:=by rfl) (hd:fits n dst=true:=by rfl)
  (h:∀b w',SH og w' (aq el 1 (some b) 2 2 [u,v]::l)→GX P ops Q (fun _=>True) n (bc (i+1) m) (e.put dst (.slice (some ⟨b,0,none⟩) 2 2)) w'):GX P ops Q (fun _=>True) n (bc i (m+1)) e w:=
 GX.buildSlice (vs:=[(0,u),(1,v)]) (pl:=[(0,[u]),(1,[v])]) ho hw (by simp[hx,hy]) (by simp[hu.eq,hv.eq]) (XL hf u v) ⟨j8,rfl⟩ rfl hd fun b w' hb hO hE=>h b w' (hH.cF hE (fun k hk=>by cases hk;omega) hO)
theorem GX.ajG [Fr]{T:Nat→Prop}{w0:World}{t:TypeId}{x y:Operand}{u v:Value}{el:TypeId}{aT:Nat}(hH:SH og w l:=by assumption)
  (ho:ops[i]?=some ⟨dst, .buildSlice t 2 #[(0,x),(1,y)],ty,pos,an,g⟩:=by rfl) (hf:cr P t el 1 aT:=by infer_instance) (hw:aI ops e ⟨dst, .buildSlice t 2 #[(0,x),(1,y)],ty,pos,an,g⟩=some true:=by rfl) (hx:ev e x=some u:=by rfl) (hy:ev e y=some v:=by rfl) (hu:Cl u [u]:=by exact Cl.one rfl) (hv:Cl v [v]:=by exact Cl.one rfl) (j8:Nat.ble (2*aT) 140737488355328=true:=by rfl) (hd:fits n dst=true:=by rfl) (hT:Mod T w0 w:=by first|assumption|exact Ext.mod (by assumption))
  (h:∀b w',Mod T w0 w'→SH og w' (aq el 1 (some b) 2 2 [u,v]::l)→GX P ops Q (Mod T w0) n p (e.put dst (.slice (some ⟨b,0,none⟩) 2 2)) w'):GX P ops Q (Mod T w0) n (.aw i p) e w:=
 GX.aw ho (GO.buildSlice (vs:=[(0,u),(1,v)]) (pl:=[(0,[u]),(1,[v])]) (XL hf u v) ⟨vq j8,by decide⟩ hw (by simp[hx,hy]) (by simp[hu.eq,hv.eq]) rfl hd fun b w' hb hO hE=>⟨fun _ hS=>hS.trans hE.mod,h b w' (hT.trans hE.mod) (hH.cF hE (fun k hk=>by cases hk;omega) hO)⟩)
theorem GO.NZ [Fr]{T:Nat→Prop}{w0:World}{t kt el:TypeId}{x y:Operand}{ok:Bool}{a:κ}{Z V:Value}(hH:SH og w0 l:=by assumption)(hT:¬T b:=by first|exact id|assumption|exact Cv|exact tL|exact FC)(hS:Mod T w0 w:=by first|assumption|exact Ext.mod (by assumption))
  (hu:bI P t (.map kt el):=by infer_instance) (hw:aI ops e ⟨dst, .lookup t x y ok,ty,pos,an,g⟩=some true:=by rfl) (hx:ev e x=some (.map (some b)):=by rfl) (he:Ms b kv vv M l:=by repeat(first|exact Ms.own|exact Ms.fz|apply Ms.there)) (hy:ev e y=some (kv a):=by rfl) (hd:fits n dst=true:=by rfl)
  (hk:kE P kv kt:=by infer_instance) (hz:mv P el Z:=by infer_instance) (hV:jA vv Z ok (ay M a)=V)
  (h:GX P ops Q (Mod T w0) n p (e.put dst V) w):GO P ops Q (Mod T w0) n .read i ⟨dst, .lookup t x y ok,ty,pos,an,g⟩ p e w:=by
 subst hV;exact GO.rd hS hw hd (fun ac ha w' Ak=>by simp[execOp,bE ha hx,bE ha hy,Xh ((hH.ms he).mod Ak hT) hu.out hk hz.out a ok]) h
theorem GX.Ki [Fr]{T:Nat→Prop}{w0:World}{t:TypeId}{agg:Bool}{sz:Nat}{x y:Operand}{o:Nat}{v:Value}{vs cs cs':List Value}(hH:SH og w l:=by assumption)(hT:T b∨gS ops i=true:=by exact .inr ai)
  (ho:ops[i]?=some ⟨none, .store t x y,ty,pos,an,g⟩:=by rfl) (hf:aC P t agg sz:=by infer_instance) (hw:aI ops e ⟨none, .store t x y,ty,pos,an,g⟩=some true:=by rfl) (hx:ev e x=some (.pointer (some ⟨b,o,none⟩)):=by rfl) (hy:ev e y=some v:=by rfl)
  (hr:bA (aB b cs) (aB b cs') l l':=by repeat(first|exact bA.here|apply bA.there)) (hv:Cl v vs:=by first|exact Cl.agg|exact Cl.one rfl) (hl:vs.length=sz:=by rfl) (hlen:Nat.ble (o+sz) cs.length=true:=by rfl) (h1:(vs.all fun u=>u.oneCell')=true:=by rfl) (hl':Sn vs cs o cs':=by repeat(first|exact Sn.nil|apply Sn.zero|apply Sn.succ))
  (h:∀w',SH og w' l'→GX P ops Q (Mod T w0) n p e w'):GX P ops Q (Mod T w0) n (.aw i p) e w:=by
 obtain⟨_,hs,_⟩:=hr.perm;have hB:cE w b cs:=let⟨_,_,h,_⟩:=(hH.perm hs).head;h;exact GX.XZ hB hT ho hw hx hy hv.eq hl hlen (fun u hu=>sR.1 h1 u hu) hl'.eq fun w' zA hm=>h w' (hH.JU hr (fun _=>zA) hm)
end
end
section
attribute [local irreducible] GO GX aB fz aF aS aq star
variable {o:Og}{w:World}
def oX (a b:Nat):Int:=if a<b then -1 else if b<a then 1 else 0
theorem QL (x y:Nat)(w:World):aj prog 133 [uV x,uV y].toArray w fun v w'=>v=iV (oX x y)∧w'=w:=by
 have e1:∀(z:Nat) (w:World),aj prog 205 [uV z].toArray w fun v w'=>v = .bool false∧w'=w:=fun z w=>by
  refine aj.enter func205 rfl ntmps205 rfl (gh ?_);exact⟨by simp,rfl⟩
 refine aj.enter func133 rfl ntmps133 rfl (gh ?_);refine GX.da (e1 x _) rfl rfl rfl rfl rfl rfl (gh ?_);refine GX.da (e1 y _) rfl rfl rfl rfl rfl rfl (gh ?_);refine ifs (fun h1=>?_) (fun h1=>?_)<;>refine gh ?_
 ·exact⟨by rw[oX,if_pos ah],rfl⟩
 refine ifs (fun h2=>?_) (fun h2=>?_)<;>refine gh ?_
 ·exact⟨by rw[oX,if_neg ah,if_pos ah],rfl⟩
 exact⟨by rw[oX,if_neg ah,if_neg ah],rfl⟩
theorem aar (x y:Nat)(w:World):aj prog 395 [iV x,iV y].toArray w fun v w'=>v=iV (oX x y)∧w'=w:=by
 have e1:∀(z:Nat) (w:World),aj prog 305 [iV z].toArray w fun v w'=>v = .bool false∧w'=w:=fun z w=>by
  refine aj.enter func305 rfl ntmps305 rfl (gh ?_);exact⟨by simp,rfl⟩
 refine aj.enter func395 rfl ntmps395 rfl (gh ?_);refine GX.da (e1 x _) rfl rfl rfl rfl rfl rfl (gh ?_);refine GX.da (e1 y _) rfl rfl rfl rfl rfl rfl (gh ?_);refine ifs (fun h1=>?_) (fun h1=>?_)<;>refine gh ?_
 ·exact⟨by rw[oX,if_pos ah],rfl⟩
 refine ifs (fun h2=>?_) (fun h2=>?_)<;>refine gh ?_
 ·exact⟨by rw[oX,if_neg ah,if_pos ah],rfl⟩
 exact⟨by rw[oX,if_neg ah,if_neg ah],rfl⟩
def rl (a b:Int):Int:=if a≠0 then a else b
theorem ahG {q:Option Nat}{c:Nat}(x y:Int)(hs:Start o w [fz (aq 3 1 q 2 c [iV x,iV y])]):aj prog 132 [.slice (aA q) 2 c].toArray w (Po o (iV (rl x y)) []):=by
 have hH:=hs.sh;refine aj.enter func132 rfl ntmps132 rfl (gh ?_);obtain⟨b,rfl⟩:=hH.l8 (cs:=[iV x,iV y]);refine GC.bR [3,6,7] (fun k:Nat=>[(8,iV k)]) (fun k w'=>k≤2∧(0<k→x=0)∧(1<k→y=0)∧SH o w' [fz (aq 3 1 (some b) 2 c [iV x,iV y])]) (fun k=>2 - k) 0 rfl rfl ⟨bh _,ah,ah,hH⟩ ?_;rintro k w ⟨h1,h2,h3,hH⟩;refine gh ?_;refine ifs (fun h4=>?_) (fun h4=>?_)<;>refine gh ?_
 ·rcases(show k=0∨k=1 by omega) with rfl|rfl
  ·refine GX.next rfl (GO.cT (hv:=show[iV x,iV y][0]?=some (iV x) from rfl) (h:=gh ?_));refine ifs (fun h5=>?_) (fun h5=>?_)<;>refine gh ?_
   ·exact⟨by rw[rl,if_pos h5],hH.to⟩
   ·exact GQ.bj 1 rfl ⟨by omega,ah,ah,hH⟩ ah
  ·refine GX.next rfl (GO.cT (hv:=show[iV x,iV y][1]?=some (iV y) from rfl) (h:=gh ?_));refine ifs (fun h5=>?_) (fun h5=>?_)<;>refine gh ?_
   ·exact⟨by rw[rl,if_neg (by simp[h2])],hH.to⟩
   ·exact GQ.bj 2 rfl ⟨by omega,ah,ah,hH⟩ ah
 ·exact⟨by rw[rl,if_neg (by simp[h2 ah]),h3 ah],hH.to⟩
def lM (x:Tm):List Value:=[iV x.1,uV x.2]
theorem nG (x:Tm):(lM x).length=2:=rfl
theorem Yf (x:Tm):∀u∈lM x,u.oneCell'=true:=by
 intro u hu
 rcases bU.1 hu with rfl|hu
 ·rfl
 ·rcases bU.1 hu with rfl|hu
  ·rfl
  ·cases hu
def Pq (x y:Tm):Int:=rl (oX x.2 y.2) (oX x.1 y.1)
def Pn (x:Tm):Prop:=x.1<1048576∧x.2<18446744073709551616
theorem alF {x y:Tm}(hx:Pn x)(hy:Pn y):Pq x y<0↔xp x<xp y:=by
 obtain⟨h1,h2⟩:=hx;obtain⟨h3,h4⟩:=hy;unfold Pq rl oX xp
 repeat' split
 all_goals omega
theorem aaz (x y:Tm)(hs:Start o w []):aj prog 379 [.agg (lM x).toArray, .agg (lM y).toArray].toArray w (Po o (iV (Pq x y)) []):=by
 have hH:=hs.sh;refine aj.enter func379 rfl ntmps379 rfl (gh ?_);refine GX.cI (h:=fun a w hH=>gh ?_);refine GX.cI (h:=fun b w hH=>gh ?_);refine GC.br (pl:=(bg [0,6,15,21,4,10,19,25,14,29,32,35,36])) (T:=fun _=>False) (hm:=mixed) (h:=fun w hE hH=>gh ?_);refine GX.pS (hc:=QL x.2 y.2 _) (h:=gh ?_);refine GX.pS (hc:=aar x.1 y.1 _) (h:=gh ?_);refine GX.ajG (h:=fun q w hS hH=>gh ?_);refine GX.xN (hc:=fun _ hs=>ahG (q:=some q) _ _ hs) (h:=fun w hS hH=>gh ?_);exact⟨rfl,hH.to⟩
def lQ (M:List (Int×Int))(L:List Tm):Prop:=(∀(i:Nat) (x:Tm),L[i]?=some x→ay M (x.1:Int)=some (i:Int))∧(∀k v,ay M k=some v→∃x∈L,k=(x.1:Int))∧(M.map (·.1)).Nodup
def kR (h:Nat)(L:List Tm):It:=star fun y:{ y:Option Nat×Nat×Nat×List (Int×Int) // lQ y.2.2.2 L}=>[aB h [.slice (aA y.1.1) L.length y.1.2.1, .map (some y.1.2.2.1)],aq 234 2 y.1.1 L.length y.1.2.1 (aL lM L),aS y.1.2.2.1 iV iV y.1.2.2.2]
instance {h:Nat}{L:List Tm}:Zf (kR h L):=Zf.star fun _=>inferInstance
theorem B1 {l t:List It}{h n c b:Nat}{q:Option Nat}{cs:List Value}{L:List Tm}{M:List (Int×Int)}(hH:SH o w l)(hM:lQ M L)(hp:Pk l [aB h [.slice (aA q) n c, .map (some b)],aq 234 2 q n c cs,aS b iV iV M] t:=by repeat(first|exact Pk.nil|(apply Pk.cons;repeat(first|exact az.here|apply az.there))))(e1:n=L.length:=by rfl)(e2:cs=aL lM L:=by rfl):SH o w (kR h L::t):=by
 subst e1 e2;exact SH.fold (f:=fun y:{ y:Option Nat×Nat×Nat×List (Int×Int) // lQ y.2.2.2 L}=>[aB h [.slice (aA y.1.1) L.length y.1.2.1, .map (some y.1.2.2.1)],aq 234 2 y.1.1 L.length y.1.2.1 (aL lM L),aS y.1.2.2.1 iV iV y.1.2.2.2]) ⟨(q,c,b,M),hM⟩ hH hp
def kF (L:List Tm):Prop:=(∀x∈L,Pn x)∧L.length≤1048576
theorem ND {h:Nat}{L:List Tm}(hs:Start o w [fz (kR h L)]):aj prog 225 [ak h].toArray w (Po o (.bool false) []):=by
 have hH:=hs.sh;obtain⟨⟨⟨q,c,b,M⟩,hM⟩,hH⟩:=SH.dV hH;replace hH:=SH.ed hH;dsimp only at hH;refine aj.enter func225 rfl ntmps225 rfl (gh ?_);refine GX.next rfl (GO.N7 rfl rfl rfl rfl rfl (gh ?_));exact⟨rfl,hH.to⟩
theorem NP {L:List Tm}{i:Nat}(h:i<L.length):cY L i=xp L[i]:=Uo (bO h)
theorem Dm {h:Nat}{L:List Tm}(hL:kF L)(i k:Nat)(hi:i<L.length)(hk:k<L.length)(hs:Start o w [fz (kR h L)]):aj prog 335 [ak h,iV i,iV k].toArray w (Po o (.bool (decide (cY L i<cY L k))) []):=by
 have hH:=hs.sh;have hlen:=hL.2;obtain⟨⟨⟨q,c,b,M⟩,hM⟩,hH⟩:=SH.dV hH;replace hH:=SH.ed hH;dsimp only at hH;obtain⟨a,rfl⟩:=hH.l8 (cs:=aL lM L);refine aj.enter func335 rfl ntmps335 rfl (gh ?_);refine GC.br (pl:=(bg [0,3,6,12,21,24,27,33,10,15,19,31,36,40,44,45,48])) (T:=fun _=>False) (hm:=mixed) (h:=fun w hE hH=>gh ?_);refine GX.read rfl (GO.yB (hv:=ku nG (bO hi)) (h:=gh ?_));refine GX.read rfl (GO.yB (hv:=ku nG (bO hk)) (h:=gh ?_));refine GX.xN (hc:=fun _ hs=>aaz L[i] L[k] hs) (h:=fun w hS hH=>gh ?_);refine⟨?_,hH.to⟩;rw[NP hi,NP hk];simp only[alF (hL.1 _ (pI hi)) (hL.1 _ (pI hk))]
theorem lQ.uniq {M:List (Int×Int)}{L:List Tm}(h:lQ M L){i j:Nat}{x y:Tm}(hx:L[i]?=some x)(hy:L[j]?=some y)(e:x.1=y.1):i=j:=by
 have h1:=h.1 i x hx;have h2:=h.1 j y hy;rw[e,h2] at h1;exact(Int.ofNat.inj (Option.some.inj h1)).symm
theorem lQ.swap {M:List (Int×Int)}{L:List Tm}(h:lQ M L){i k:Nat}(hi:i<L.length)(hk:k<L.length){xi xk:Tm}(yo:(gk L i k)[i]?=some xi)(eS:(gk L i k)[k]?=some xk):lQ (bC (bC M (xi.1:Int) (i:Int)) (xk.1:Int) (k:Int)) (gk L i k):=by
 have LO:L[i]?=some xk:=by rw[yV hi hk,if_pos rfl] at eS;exact eS
 have LP:L[k]?=some xi:=by
  rw[yV hi hk,if_pos rfl] at yo;split at yo
  ·rename_i e;rw[←e];exact yo
  ·exact yo
 refine⟨fun j x hx=>?_,fun kk v hv=>?_,sB (sB h.2.2 _ _) _ _⟩
 ·rw[yV hi hk] at hx;rw[kU,kU];split at hx
  ·rename_i e
   rw[LO] at hx;cases hx;rw[if_pos rfl,e]
  ·rename_i e1
   split at hx
   ·rename_i e2
    rw[LP] at hx;cases hx;rw[if_neg (fun e=>e1 (e2.trans (h.uniq LO LP ah))),if_pos rfl,e2]
   ·rename_i e2
    rw[if_neg (fun e=>e2 (h.uniq hx LO ah)),if_neg (fun e=>e1 (h.uniq hx LP ah))];exact h.1 j x hx
 ·rw[kU,kU] at hv;split at hv
  ·exact⟨xk,bD eS,by assumption⟩
  ·split at hv
   ·exact⟨xi,bD yo,by assumption⟩
   ·obtain⟨x,hx,e⟩:=h.2.1 kk v hv;exact⟨x,(CV hi hk).mem_iff.2 hx,e⟩
theorem Pm {h:Nat}{L:List Tm}(hlen:L.length≤1048576)(i k:Nat)(hi:i<L.length)(hk:k<L.length)(hs:Start o w [kR h L]):aj prog 276 [ak h,iV i,iV k].toArray w (Po o (.tuple #[]) [kR h (gk L i k)]):=by
 have hH:=hs.sh;obtain⟨⟨⟨q,c,b,M⟩,hM⟩,hH⟩:=SH.un hH;replace hH:=SH.ap hH;dsimp only at hH;obtain⟨a,rfl⟩:=hH.pos (cs:=aL lM L);refine aj.enter func276 rfl ntmps276 rfl (gh ?_);refine GC.br (pl:=(bg [0,3,6,12,15,18,21,27,30,33,36,42,51,54,57,63,10,25,40,45,49,61,66,70,72,77,78,83])) (T:=fun _=>False) (hm:=mixed) (h:=fun w hE hH=>gh ?_);refine GX.read rfl (GO.yB (hv:=ku nG (bO hk)) (h:=gh ?_));refine GX.read rfl (GO.yB (hv:=ku nG (bO hi)) (h:=gh ?_));refine GX.gU (hb:=by rw[gT nG,nG];simp;omega) (hc:=show _=aL lM (L.set i L[k]) from(by rw[show 0+((i:Nat):Int).toNat*2=i*2 by simp];exact AM nG hi L[k])) (h:=fun w hH=>gh ?_);refine GX.gU (hb:=by rw[gT nG,nG];simp;omega) (hc:=show _=aL lM (gk L i k) from(by rw[show 0+((k:Nat):Int).toNat*2=k*2 by simp,Ph (bO hi) (bO hk)];exact AM nG (by simp;exact hk) L[i])) (h:=fun w hH=>gh ?_);have ep:∀j,(gk L i k)[j]?=if j=k then L[i]? else if j=i then L[k]? else L[j]?:=yV hi hk
 have I0:∃x,(gk L i k)[i]?=some x:=⟨_,bO (by rw[qu];exact hi)⟩
 have hsk:∃x,(gk L i k)[k]?=some x:=⟨_,bO (by rw[qu];exact hk)⟩
 obtain⟨xi,yo⟩:=I0;obtain⟨xk,eS⟩:=hsk;refine gh ?_;refine GC.br (pl:=(bg [0,3,6,12,15,18,24,36,39,42,48,51,54,60,72,75,10,22,27,30,34,46,58,63,66,70,80,81,86,89,90,95])) (T:=fun _=>False) (hm:=mixed) (h:=fun w hE hH=>gh ?_);refine GX.read rfl (GO.lC (hv:=by simpa using mS nG yo (j:=0) rfl) (h:=gh ?_));refine GX.read rfl (GO.lC (hv:=by simpa using mS nG eS (j:=0) rfl) (h:=gh ?_));refine GX.Q6 (z:=(0:Int)) (h:=fun w st hH hE=>gh ?_);refine GX.Q5 (h:=fun w hH=>gh ?_);refine GX.Q6 (z:=(0:Int)) (h:=fun w st hH hE=>gh ?_);refine GX.Q5 (h:=fun w hH=>gh ?_);rw[Jx,Jx] at hH;exact⟨rfl,(B1 hH (hM.swap hi hk yo eS) (e1:=(qu L i k).symm)).to⟩
theorem kF.swap {L:List Tm}(h:kF L){i k:Nat}(hi:i<L.length)(hk:k<L.length):kF (gk L i k):=⟨fun x hx=>h.1 x ((CV hi hk).mem_iff.1 hx),by rw[qu];exact h.2⟩
theorem aim (i:Nat)(h:i<2^40):IntKind.i64.wrap (((i:Int) - 1).tdiv 2)=(((i - 1) / 2:Nat):Int):=by
 cases i with
 |zero=>decide
 |succ i=>
  rw[show((i+1:Nat):Int) - 1=(i:Int) by omega,show i+1 - 1=i by omega,show((i:Int).tdiv 2)=((i / 2:Nat):Int) from(Int.ofNat_tdiv i 2).symm];exact lf ⟨by omega,by omega⟩
theorem alZ {h:Nat}{L:List Tm}(hL:kF L)(i:Nat)(hi:i<L.length)(hs:Start o w [fz (kR h L)]):aj prog 336 [.func (.func 335) #[ak h] #[],iV i].toArray w (Po o (.tuple #[iV ((i - 1) / 2:Nat), .bool (decide (0<i∧cY L i<cY L ((i - 1) / 2)))]) []):=by
 have hH:=hs.sh;have hlen:=hL.2;refine aj.enter func336 rfl ntmps336 rfl (gh ?_);refine GX.next rfl (GO.quo rfl rfl rfl rfl rfl ah (c:=(((i - 1) / 2:Nat):Int)) (aim i ah) (gh ?_));refine ifs (fun h1=>?_) (fun h1=>?_)<;>refine gh ?_
 ·refine GX.aM (hc:=fun _ hs=>Dm hL i ((i - 1) / 2) hi ah hs) (h:=fun w hE hH=>gh ?_);refine⟨?_,hH.to⟩;simp[show 0<i by omega]
 ·refine⟨?_,hH.to⟩;simp[show i=0 by omega]
def A5 (L:List Tm)(i:Nat)(y:Nat×Bool):Prop:=
 (y.2=true∧y.1<L.length∧0<y.1∧(y.1 - 1) / 2=i∧(∀c,0<c→c<L.length→(c - 1) / 2=i→cY L y.1≤cY L c)∧cY L y.1<cY L i)∨(y.2=false∧∀c,0<c→c<L.length→(c - 1) / 2=i→cY L i≤cY L c)
theorem A5.of {L:List Tm}{i k:Nat}(h1:k<L.length)(h2:0<k)(h3:(k - 1) / 2=i)(h4:∀c,0<c→c<L.length→(c - 1) / 2=i→cY L k≤cY L c):A5 L i (k,decide (cY L k<cY L i)):=by
 by_cases h:cY L k<cY L i
 ·exact .inl ⟨by simp[h],h1,h2,h3,h4,h⟩
 ·exact .inr ⟨by simp[h],fun c c0 cl ci=>dF (Nat.le_of_not_lt h) (h4 c c0 cl ci)⟩
theorem aaR {h:Nat}{L:List Tm}(hL:kF L)(i:Nat)(hi:i<L.length)(hs:Start o w [fz (kR h L)]):aj prog 338 [ak h,iV i].toArray w (aX o (fun y:Nat×Bool => .tuple #[iV y.1, .bool y.2]) (A5 L i) (fun _=>[])):=by
 have ia:=hs.sh;have hlen:=hL.2;have hH:=ia;obtain⟨⟨⟨q,c,b,M⟩,hM⟩,hH⟩:=SH.dV hH;replace hH:=SH.ed hH;dsimp only at hH;refine aj.enter func338 rfl ntmps338 rfl (gh ?_);have e2:2*(i:Int)+1+1=((2*i+2:Nat):Int):=by omega
 have e1:2*(i:Int)+1=((2*i+1:Nat):Int):=by omega
 refine ifs (fun h1=>?_) (fun h1=>?_)<;>refine gh ?_
 ·replace hH:=ia;clear ia;rw[e2,e1];refine GX.aM (hc:=fun _ hs=>Dm hL (2*i+2) (2*i+1) ah ah hs) (h:=fun w hE hH=>gh ?_);refine ifs (fun h2=>?_) (fun h2=>?_)<;>refine gh ?_
  ·have ia:=hH;obtain⟨⟨⟨q,c,b,M⟩,hM⟩,hH⟩:=SH.dV hH;replace hH:=SH.ed hH;dsimp only at hH;refine gh ?_;refine ifs (fun h3=>?_) (fun h3=>?_)<;>refine gh ?_
   ·replace hH:=ia;clear ia;rw[show((2*i+1:Nat):Int)+1=((2*i+2:Nat):Int) by omega];refine GX.aM (hc:=fun _ hs=>Dm hL (2*i+2) i ah hi hs) (h:=fun w hE hH=>gh ?_);exact⟨(2*i+2,_),rfl,A5.of ah ah ah (fun c c0 cl ci=>by rcases(show c=2*i+1∨c=2*i+2 by omega) with rfl|rfl<;>omega),hH.to⟩
   ·omega
  ·have ia:=hH;obtain⟨⟨⟨q,c,b,M⟩,hM⟩,hH⟩:=SH.dV hH;replace hH:=SH.ed hH;dsimp only at hH;refine gh ?_;refine ifs (fun h3=>?_) (fun h3=>?_)<;>refine gh ?_
   ·replace hH:=ia;clear ia;refine GX.aM (hc:=fun _ hs=>Dm hL (2*i+1) i ah hi hs) (h:=fun w hE hH=>gh ?_);exact⟨(2*i+1,_),rfl,A5.of ah ah ah (fun c c0 cl ci=>by rcases(show c=2*i+1∨c=2*i+2 by omega) with rfl|rfl<;>omega),hH.to⟩
   ·omega
 ·refine ifs (fun h3=>?_) (fun h3=>?_)<;>refine gh ?_
  ·replace hH:=ia;clear ia;rw[e1];refine GX.aM (hc:=fun _ hs=>Dm hL (2*i+1) i ah hi hs) (h:=fun w hE hH=>gh ?_);exact⟨(2*i+1,_),rfl,A5.of ah ah ah (fun c c0 cl ci=>by obtain rfl:c=2*i+1:=ah;exact aY _),hH.to⟩
  ·exact⟨(2*i+1,false),by rw[e1], .inr ⟨rfl,fun c c0 cl ci=>by omega⟩,hH.to⟩
theorem alu {L:List Tm}{i k:Nat}(hi:i<L.length)(hk:k<L.length):gk L i k=gk L k i:=by
 apply pB;intro j;rw[yV hi hk,yV hk hi]
 by_cases h1:j=k
 ·by_cases h2:j=i
  ·rw[if_pos h1,if_pos h2,←h1,←h2]
  ·rw[if_pos h1,if_neg h2,if_pos h1]
 ·rw[if_neg h1]
  by_cases h2:j=i
  ·rw[if_pos h2,if_pos h2]
  ·rw[if_neg h2,if_neg h2,if_neg h1]
theorem aag {h:Nat}{L:List Tm}(hL:kF L)(i:Nat)(hi:i<L.length)(hB:C9 L i)(hs:Start o w [kR h L]) :
  aj prog 334 [.func (.func 335) #[ak h] #[],iV i, .func (.func 336) #[] #[], .func (.func 276) #[ak h] #[]].toArray w (aX o (fun _:List Tm => .tuple #[]) (fun L'=>L'.Perm L∧kF L'∧ui L' i) (fun L'=>[kR h L'])):=by
 have hH:=hs.sh;refine aj.enter func334 rfl ntmps334 rfl (gh ?_);refine GC.bR [0,2,3] (fun x:List Tm×Nat=>[(1,iV x.2)]) (fun x w'=>x.1.Perm L∧kF x.1∧x.2<x.1.length∧A9 x.1 i x.2∧SH o w' [kR h x.1]) (fun x=>x.2) (L,i) rfl rfl ⟨.refl _,hL,hi,⟨hB, .inl rfl⟩,hH⟩ ?_;rintro⟨N,p⟩ w ⟨hP,hN,hp,hU,hH⟩;simp only at hP hN hp hU hH;refine gh ?_;refine GX.aM (hc:=fun _ hs=>alZ hN p hp hs) (h:=fun w hE hH=>gh ?_);refine ifs (fun h1=>?_) (fun h1=>?_)<;>refine gh ?_
 ·refine⟨N,rfl,⟨hP,hN,hU.stop fun h0=>by simp at h1;exact h1 h0⟩,hH.to⟩
 ·refine GX.bF (hc:=fun _ hs=>Pm hN.2 p ((p - 1) / 2) hp ah hs) (h:=fun w hH=>gh ?_);exact GQ.bj (gk N p ((p - 1) / 2),(p - 1) / 2) rfl ⟨(CV hp ah).trans hP,hN.swap hp ah,by rw[qu];omega,hU.step h1.1 hp h1.2,hH⟩ (by simp only;omega)
theorem aaf {h:Nat}{L:List Tm}(hL:kF L)(i:Nat)(hi:i<L.length)(hB:ui L i)(hs:Start o w [kR h L]) :
  aj prog 337 [ak h,iV i, .func (.func 338) #[] #[], .func (.func 276) #[ak h] #[]].toArray w (aX o (fun _:List Tm => .tuple #[]) (fun L'=>L'.Perm L∧kF L'∧Hp L') (fun L'=>[kR h L'])):=by
 have hH:=hs.sh;refine aj.enter func337 rfl ntmps337 rfl (gh ?_);refine GC.bR [0,2,3] (fun x:List Tm×Nat=>[(1,iV x.2)]) (fun x w'=>x.1.Perm L∧kF x.1∧x.2<x.1.length∧ui x.1 x.2∧SH o w' [kR h x.1]) (fun x=>x.1.length - x.2) (L,i) rfl rfl ⟨.refl _,hL,hi,hB,hH⟩ ?_;rintro⟨N,p⟩ w ⟨hP,hN,hp,hU,hH⟩;simp only at hP hN hp hU hH;refine gh ?_;refine GX.ef (hc:=fun _ hs=>aaR hN p hp hs) (h:=?_);rintro⟨k,m⟩ w hC hE hH;replace hH:=SH.ap hH;refine gh ?_
 rcases hC with⟨rfl,hk,k0,kp,hm,hl⟩|⟨rfl,hm⟩
 ·simp only at hk k0 kp hm hl;refine gh ?_;refine GX.bF (hc:=fun _ hs=>Pm hN.2 p k hp hk hs) (h:=fun w hH=>gh ?_);rw[alu hp hk] at hH;exact GQ.bj (gk N k p,k) rfl ⟨(CV hk hp).trans hP,hN.swap hk hp,by rw[qu];exact hk,hU.step k0 hk kp hm hl,hH⟩ (by simp only[qu];omega)
 ·refine gh ?_;exact⟨N,rfl,⟨hP,hN,hU.stop hm⟩,hH.to⟩
theorem XC {h:Nat}{L:List Tm}(hL:kF L)(i:Nat)(hi:i<L.length)(hB:C9 L i)(hs:Start o w [kR h L]) :
  aj prog 277 [ak h,iV i].toArray w (aX o (fun _:List Tm => .tuple #[]) (fun L'=>L'.Perm L∧kF L'∧Hp L') (fun L'=>[kR h L'])):=by
 have hH:=hs.sh;refine aj.enter func277 rfl ntmps277 rfl (gh ?_);refine GX.bZ (hc:=fun _ hs=>aag hL i hi hB hs) (h:=?_);rintro N w ⟨hP,hN,hD⟩ hH;replace hH:=SH.ap hH;refine gh ?_;refine GX.bZ (hc:=fun _ hs=>aaf hN i (by rw[hP.length_eq];exact hi) hD hs) (h:=?_);rintro N2 w ⟨fM,DX,zD⟩ hH;replace hH:=SH.ap hH;refine gh ?_;exact⟨N2,rfl,⟨fM.trans hP,DX,zD⟩,hH.to⟩
end
end Go.Proofs.YtoloaehmppcjoaaGreat.V.M
