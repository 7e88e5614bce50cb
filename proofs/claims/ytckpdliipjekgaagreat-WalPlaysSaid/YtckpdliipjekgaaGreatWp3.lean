/- 13 texts, one behind the other. -/
import Derived.Test.YtckpdliipjekgaaGreatWp1
import Derived.Test.YtckpdliipjekgaaGreatWp2
set_option linter.defProp false
set_option linter.unusedVariables false
set_option linter.unusedSimpArgs false
set_option maxRecDepth 100000
noncomputable section
def b5G:=@Int.le_refl
def b5O:=@List.mem_cons_of_mem
def b5R:=@List.length_nil
def b6B:=@List.mem_cons_self
def b6Z:=@List.getElem?_of_mem
def b7P:=@Option.isNone_iff_eq_none
def b8O:=@List.zip_cons_cons
def b8P:=@Nat.sub_self
def b8Q:=@List.Perm.refl
def b8R:=@List.nodup_nil
def b9V:=@List.flatMap_cons
def c0A:=@Nat.sub_zero
def c0B:=@List.mem_flatMap
section
namespace Go.Wl
open Go Go.Wk
section
variable {P:Program} {Z:Nat->Prop} {bs:List Nat} {w:World} {v:Value} {l:Str} {T E:TypeId} {info:TypeInfo} {zv:Value}
theorem d9d {s:Str} {cs:List (List Value)} (h:cs=s.map fun c=>[bv c]) (w:World):(Builtin.firstCells n5.sz s.length (sv s)).run P w=.ok cs.flatten.toArray w:=by
 have e:cs.flatten=s.map bv:=by
  rw [h]
  clear h
  induction s with
  | nil=>rfl
  | cons c s ih=>simp [ih]
 rw [e]
 show (pure (((⟨s.toArray⟩:ByteArray).extract 0 s.length).data.map fun b=>Value.int .u8 b.toNat):Sem (Array Value)).run P w=_
 have e2:((⟨s.toArray⟩:ByteArray).extract 0 s.length).data=s.toArray:=by
  have:=W8 s
  rw [<- this,ByteArray.extract_zero_size]
 rw [e2,b4E]
 simp [bv]
theorem b6i {T2:TypeId} {s:Str} (hT:∀ w,(underlying T).run P w=.ok (.slice E) w) (hT2:∀ w,(underlying T2).run P w=.ok .string w) (hI:∀ w,(typeInfo E).run P w=.ok info w) (hE:∀ w,(sizeOf E).run P w=.ok n5.sz w) (hz:∀ w,(zeroValue E).run P w=.ok zv w) (hzs:zv.cells.size=n5.sz)
  (ha:Ac n5 Z w v l bs) (hnz:∀ b∈bs,¬ Z b) (hb:(l.length+s.length) * info.bytes<=140737488355328) (hb1:1<=info.bytes) :
  ∀ w1,Sim w w1->∃ v' w2 w',(Builtin.append_ #[T,T2] T #[v,sv s]).run P w1=.ok v' w2/\Sim w' w2/\∃ bs',Ac n5 Z w' v' (l++s) bs'/\Ext bs w w'/\(∀ b∈bs',b∈bs ∨ w.heap.size<=b):=by
 intro w1 hs
 obtain ⟨kk,rfl⟩:=hs
 obtain ⟨A,cap,rfl⟩:=ha.val
 obtain ⟨cs,hcs0⟩:∃ cs:List (List Value),cs=s.map fun c=>[bv c]:=⟨_,rfl⟩
 have hcl:cs.length=s.length:=by rw [hcs0,b6F]
 have hcr:∀ i (h:i<s.length) (h':i<cs.length),n5.rd Z w cs[i] s[i]:=fun i h h'=>by simp only [hcs0,List.getElem_map]; exact rfl
 have hcs:∀ c∈cs,c.length=n5.sz:=fun c hc=>by
  obtain ⟨i,hi,rfl⟩:=b4I hc
  exact n5.len (hcr i (by omega) hi)
 have hfirst:∀ kk,(Builtin.firstCells n5.sz s.length (sv s)).run P { w with drawn:=kk }=.ok cs.flatten.toArray { w with drawn:=kk }:=fun kk=>d9d hcs0 _
 have hnew:=hfirst kk
 have hln:Builtin.lenOf (sv s)=pure s.length:=by
  show (pure (⟨s.toArray⟩:ByteArray).size:Sem Nat)=_
  rw [W8]
 by_cases hfit:l.length+s.length<=cap
 . -- there is room
   rcases ha with ⟨hv,rfl,rfl⟩ | ⟨b,cap',C,T',hv,rfl,ho,hC,hcap,hc⟩
   . simp at hv
     obtain ⟨rfl,rfl⟩:=hv
     have hx0:s=[]:=b4O (by have:([]:Str).length+s.length<=0:=hfit; simp at this; simp [this])
     subst hx0
     refine ⟨.slice none 0 0,{ w with drawn:=kk },w,?_,⟨kk,rfl⟩,[],Ac.nil,Ext.refl _ _,by simp⟩
     simp only [Builtin.append_,hT,hT2,hE,hln,b3S,b3O,b4E,b5B,b5D,b4B,b5M,if_false,b7Z,if_true]
     rw [if_pos hfit]
     simp only [b3S,hnew,b3O,b4E]; rfl
   . simp at hv
     obtain ⟨rfl,rfl⟩:=hv
     have hfl:=H6 hcs
     have hpl:∀ u∈cs.flatten,A2 u=true:=by
      intro u hu
      obtain ⟨c,hc1,hc2⟩:=b9Z.1 hu
      obtain ⟨i,hi,rfl⟩:=b4I hc1
      have:=n5.plain (hcr i (by omega) hi)
      rw [b5A] at this
      exact this u hc2
     have hroom:l.length * n5.sz+0+cs.flatten.length<=C.length:=by
      rw [hfl,hC,hcl,b5Q,<- b5X]; exact b4C _ hfit
     obtain ⟨w',hr,ho',he,hsz,hk⟩:=I2 (P:=P) cs.flatten (l.length * n5.sz) 0 C w ho hroom hpl
     refine ⟨.slice (some ⟨b,0,none⟩) (l.length+s.length) cap,{ w' with drawn:=kk },w',?_,⟨kk,rfl⟩,[b],?_,he,by simp⟩
     . have e:(Addr.add ⟨b,0,none⟩ (l.length * n5.sz))=⟨b,l.length * n5.sz,none⟩:=by
         unfold Addr.add; split
         . rename_i h; rw [h]
         . simp
       simp only [Builtin.append_,hT,hT2,hE,hln,b3S,b3O,b4E,b5B,b5D,b4B,b5M,if_false,b7Z,if_true]
       rw [if_pos hfit]
       simp only [b3S,hnew,b3O,b4E,e,hk kk]
     . refine .inr ⟨b,cap,x7 C (l.length * n5.sz+0) cs.flatten,T',by simp,rfl,ho',by rw [E9,hC],by simpa using hfit,fun i hi=>?_⟩
       have hget:=fun k=>V3 cs.flatten C (l.length * n5.sz+0) k hroom
       by_cases hil:i<l.length
       . obtain ⟨c,h1,h2,h3⟩:=hc i hil
         refine ⟨c,h1,fun j hj=>?_,?_⟩
         . have hlt:i * n5.sz+j<l.length * n5.sz:=by
             have:(i+1) * n5.sz<=l.length * n5.sz:=b4C _ hil
             rw [b5X] at this; omega
           rw [hget,if_neg (by omega)]; exact h2 j hj
         . rw [b6Y hil]
           exact n5.mono h3 he (fun x hx hz=>absurd hz (hnz x hx)) (fun x hx _=>hx)
       . have hix:i-l.length<s.length:=by simp at hi; omega
         have hic:i-l.length<cs.length:=by omega
         refine ⟨cs[i-l.length],hcs _ (b5J _),fun j hj=>?_,?_⟩
         . have e1:i * n5.sz+j-(l.length * n5.sz+0)=(i-l.length) * n5.sz+j:=by
             rw [b9M]; have:l.length * n5.sz<=i * n5.sz:=b4C _ (by omega); omega
           have hlt:(i-l.length) * n5.sz+j<cs.flatten.length:=by
            rw [hfl]
            have:(i-l.length+1) * n5.sz<=cs.length * n5.sz:=b4C _ hic
            rw [b5X] at this; omega
           have hge:l.length * n5.sz<=i * n5.sz:=b4C _ (by omega)
           rw [hget,if_pos (by rw [b9M] at hlt; omega),e1,F6 hcs _ _ hj,b3T hic]; rfl
         . rw [b6U (by omega)]
           exact n5.mono (hcr _ hix hic) he (fun x hx hz=>absurd hz (hnz x hx)) (fun x hx _=>hx)
 . -- there is none
   have hneed:¬ l.length+s.length<=cap:=hfit
   have hns:=Wk.nextslicecap_le (need:=l.length+s.length) (cap:=cap) (by omega)
   have hns':¬ (Builtin.nextslicecap (l.length+s.length) cap * info.bytes > 2 ^ 48):=by
    have:=b4C info.bytes hns
    have e:(2:Nat) ^ 48=281474976710656:=by decide
    rw [Nat.mul_assoc] at this; omega
   have hlen:l.length+s.length<=140737488355328:=by
    have:=b8H (l.length+s.length) hb1; omega
   have hold:∃ os:List (List Value),os.length=l.length/\(∀ c∈os,c.length=n5.sz)/\(∀ i (h:i<l.length) (h':i<os.length),n5.rd Z w os[i] l[i])/\(Builtin.firstCells n5.sz l.length (.slice A l.length cap)).run P { w with drawn:=kk+1 }=.ok os.flatten.toArray { w with drawn:=kk+1 }:=by
    rcases ha with ⟨hv,rfl,rfl⟩ | ⟨b,cap',C,T',hv,rfl,ho,hC,hcap,hc⟩
    . simp at hv
      obtain ⟨rfl,rfl⟩:=hv
      exact ⟨[],rfl,by simp,by simp,by simp [Builtin.firstCells,Sem.run,pure]⟩
    . simp at hv
      obtain ⟨rfl,rfl⟩:=hv
      have h':∀ i,i<l.length->∃ c:List Value,c.length=n5.sz/\(∀ j,j<n5.sz->C[i * n5.sz+j]?=c[j]?)/\∃ hi:i<l.length,n5.rd Z w c l[i]:=fun i hi=>by
       obtain ⟨c,h1,h2,h3⟩:=hc i hi; exact ⟨c,h1,h2,hi,h3⟩
      obtain ⟨os,hol,hos⟩:=W7 l.length h'
      have hsz:∀ c∈os,c.length=n5.sz:=fun c hc=>by
       obtain ⟨i,hi,rfl⟩:=b4I hc
       exact (hos i hi).1
      refine ⟨os,hol,hsz,fun i hi hi'=>(hos i hi').2.2.2,N9 hol hsz (.inr ⟨b,0,rfl,(ho.sim ⟨kk+1,rfl⟩).a2X fun j hj=>?_⟩)⟩
      rw [H6 hsz] at hj
      have hsz0:0<n5.sz:=by rcases b6Q n5.sz with h | h; rw [h] at hj; simp at hj; exact h
      have hjq:j / n5.sz<os.length:=b6X (by rw [b7G]; exact hj)
      have hjr:j % n5.sz<n5.sz:=b8D _ hsz0
      have hjd:j / n5.sz * n5.sz+j % n5.sz=j:=by rw [b7G]; exact b7U j n5.sz
      have e1:=(hos (j / n5.sz) hjq).2.1 (j % n5.sz) hjr
      have e2:=F6 hsz (j / n5.sz) (j % n5.sz) hjr
      rw [hjd] at e2 e1
      rw [e2,b3T hjq]
      simpa using e1
   obtain ⟨os,hol,hos,hor,holdr⟩:=hold
   have hnew1:=hfirst (kk+1)
   let nc:=(Question.appendCap (l.length+s.length) cap E).cut (w.tape kk (Question.appendCap (l.length+s.length) cap E))
   have hnc:l.length+s.length<=nc:=by show _<=_+_ % _; omega
   let row:=os.flatten.toArray++cs.flatten.toArray++Builtin.zeroCells zv.cells (nc-(l.length+s.length))
   refine ⟨.slice (some ⟨w.heap.size,0,none⟩) (l.length+s.length) nc,{ w with drawn:=kk+1,heap:=w.heap.push (.cells row E) },{ w with heap:=w.heap.push (.cells row E) },?_,⟨kk+1,rfl⟩,[w.heap.size],?_,(Ext.push w _).mono (by simp),by simp⟩
   . have hch:(choose (.appendCap (l.length+s.length) cap E)).run P { w with drawn:=kk }=.ok nc { w with drawn:=kk+1 }:=by
       simp [choose,Sem.run,Question.forced,nc]
     have hroom:∀ m (w:World),(askRoom m).run P w=.ok () w:=fun m w=>by unfold askRoom; split <;> simp [mark,Sem.run,pure]
     have hnl:¬ ((l.length:Int)+(s.length:Int) > 9223372036854775807/\(false=true ∨ info.bytes=0)):=by omega
     simp only [Builtin.append_,hT,hT2,hE,hln,b3S,b3O,b4E,b5B,b5D,b4B,b5M,if_false,b7Z,if_true]
     rw [if_neg hfit]
     simp only [b5M,if_false,b3S,hI,b3O,false_or]
     rw [if_neg (by intro h; have:=h.2; omega)]
     simp only [b3S,hI,b3O]
     rw [if_neg hns']
     simp only [b3S,b4E,hch,hI,hroom,holdr,hnew1,hz,b3O,newRow,newObj,Sem.run]
     rfl
   . have hlo:=H6 hos
     have hlc:=H6 hcs
     refine .inr ⟨w.heap.size,nc,row.toList,E,by simp,rfl,Own.z (by simp [Own]),?_,by simpa using hnc,fun i hi=>?_⟩
     . simp only [row,Array.toList_append,b3P,b7C,b8S,hlo,hlc,a33,hzs,hol,hcl]
       rw [<- b5X,<- b5X]; congr 1; omega
     . have hrow:row.toList=os.flatten++(cs.flatten++(Builtin.zeroCells zv.cells (nc-(l.length+s.length))).toList):=by simp [row]
       rw [hrow]
       by_cases hil:i<l.length
       . have hio:i<os.length:=by omega
         refine ⟨os[i],hos _ (b5J _),fun j hj=>?_,?_⟩
         . have hlt:i * n5.sz+j<os.flatten.length:=by
             rw [hlo]; have:(i+1) * n5.sz<=os.length * n5.sz:=b4C _ hio
             rw [b5X] at this; omega
           rw [b3Z hlt,F6 hos _ _ hj,b3T hio]; rfl
         . rw [b6Y hil]
           exact n5.mono (hor i hil hio) (Ext.push w _) (fun x hx=>by cases hx) (fun x hx _=>hx)
       . have hix:i-l.length<s.length:=by simp at hi; omega
         have hic:i-l.length<cs.length:=by omega
         refine ⟨cs[i-l.length],hcs _ (b5J _),fun j hj=>?_,?_⟩
         . have hge:l.length * n5.sz<=i * n5.sz:=b4C _ (by omega)
           have e1:i * n5.sz+j-os.flatten.length=(i-l.length) * n5.sz+j:=by rw [hlo,hol,b9M]; omega
           have hlt:(i-l.length) * n5.sz+j<cs.flatten.length:=by
            rw [hlc]; have:(i-l.length+1) * n5.sz<=cs.length * n5.sz:=b4C _ hic
            rw [b5X] at this; omega
           rw [b4A (by rw [hlo,hol]; omega),e1,b3Z hlt,F6 hcs _ _ hj,b3T hic]; rfl
         . rw [b6U (by omega)]
           exact n5.mono (hcr _ hix hic) (Ext.push w _) (fun x hx=>by cases hx) (fun x hx _=>hx)
end
section
variable {P:Program} {n:Nat} {ops:List Oper} {Q:Exit->Fr->World->Prop} {rest:List Oper} {f:Fr} {w w0:World} {d:Nat} {T T2 T3 E:TypeId} {pos:String} {after:Array Edge} {x y:Operand} {B0 O bs:List Nat} {Z:Nat->Prop} {L:List It} {zv:Value} {s al:Str} {info:TypeInfo}
theorem c4o (hs:Sep B0 w0 Z w L) (j:Nat) (hj:L[j]?=some (iAc n5 (ev f x) al bs O)) (hy:ev f y=sv s)
  (hT:∀ w,(underlying T).run P w=.ok (.slice E) w) (hT2:∀ w,(underlying T2).run P w=.ok .string w) (hI:∀ w,(typeInfo E).run P w=.ok info w) (hE:∀ w,(sizeOf E).run P w=.ok n5.sz w) (hz:∀ w,(zeroValue E).run P w=.ok zv w) (hzs:zv.cells.size=n5.sz)
  (hb:(al.length+s.length) * info.bytes<=140737488355328) (hb1:1<=info.bytes) (hn:Nat.blt d n=true)
  (K:∀ A cap bs' w',Sep B0 w0 Z w' (L.set j (iAc n5 (.slice A (al++s).length cap) (al++s) bs' O))->WL P false n ops Q rest (upd f d (.slice A (al++s).length cap)) w') :
  WL P false n ops Q (⟨some d,.call ⟨.builtin .append,#[x,y],#[T,T2]⟩,T,pos,after,none⟩::rest) f w :=
 T5 rfl rfl hn fun w1 hw=>by
  obtain ⟨v',w2,w',hr,hs',bs',h1,h2,h3⟩:=b6i hT hT2 hI hE hz hzs (hs.at j hj) (hs.nz j hj) hb hb1 w1 hw
  obtain ⟨A,cap,rfl⟩:=h1.val
  refine ⟨_,w2,w',?_,hs',K A cap bs' w' (hs.upd j hj h2 h1 sAc (fun b hb=>⟨h3 b hb,h1.lt b hb⟩) rfl)⟩
  simp only [execOp,resolve,invoke,builtin,b3S,b4E,b3O]
  have:(#[x,y]:Array Operand).map (ev f)=#[ev f x,sv s]:=by simp [hy]
  rw [this,hr]; rfl
theorem d1t {α:Type} {L:List α} {j:Nat} {t:α} (h:L[j]?=some t):L.set j t=L:=by
 apply b8V
 intro k
 by_cases e:j=k
 . subst e
   obtain ⟨hl,_⟩:=List.getElem?_eq_some_iff.1 h
   rw [b4Z hl,h]
 . rw [b5H e]
theorem d3z (hs:Sep B0 w0 Z w L) (j:Nat) (hj:L[j]?=some (iAc n5 (ev f x) al bs O)) (hy:ev f y=sv s)
  (hT:∀ w,(underlying T).run P w=.ok (.slice E) w) (hE:∀ w,(sizeOf E).run P w=.ok 1 w) (hn:Nat.blt d n=true)
  (K:∀ w',Sep B0 w0 Z w' (L.set j (iAc n5 (ev f x) (s.take al.length++al.drop s.length) bs O))->WL P false n ops Q rest (upd f d (.int .i64 (min (s.length:Int) al.length))) w') :
  WL P false n ops Q (⟨some d,.call ⟨.builtin .copy,#[x,y],#[T,T2]⟩,T3,pos,after,none⟩::rest) f w:=by
 have ha:=hs.at j hj
 have hmin:∀ a b:Nat,(min a b:Nat)=Nat.min a b:=fun _ _=>rfl
 have hln:Builtin.lenOf (sv s)=pure s.length:=by
  show (pure (⟨s.toArray⟩:ByteArray).size:Sem Nat)=_
  rw [W8]
 have hgi:goInt (Nat.min s.length al.length)=.int .i64 (min (s.length:Int) al.length):=by
  show Value.int .i64 ((Nat.min s.length al.length:Nat):Int)=_
  congr 1
  show ((min s.length al.length:Nat):Int)=_
  omega
 have hfirst:∀ (w:World),(Builtin.firstCells 1 (Nat.min s.length al.length) (sv s)).run P w=.ok ((s.take al.length).map bv).toArray w:=fun w=>by
  have e:(s.take al.length).length=Nat.min s.length al.length:=by rw [b3U]; exact Nat.min_comm _ _
  show (pure (((⟨s.toArray⟩:ByteArray).extract 0 (Nat.min s.length al.length)).data.map fun b=>Value.int .u8 b.toNat):Sem (Array Value)).run P w=_
  rw [b4E,<- e]
  have e2:((⟨s.toArray⟩:ByteArray).extract 0 (s.take al.length).length).data=(s.take al.length).toArray:=by
   simp only [ByteArray.data_extract,List.extract_toArray,List.extract_eq_take_drop,b7E,c0A]
   rw [b3U,<- List.take_eq_take_min]
  rw [e2]
  simp
  rfl
 refine T5 rfl rfl hn fun w1 hw=>?_
 obtain ⟨kk,rfl⟩:=hw
 have hargs:(#[x,y]:Array Operand).map (ev f)=#[ev f x,sv s]:=by simp [hy]
 generalize hv:ev f x=v at *
 rcases ha with ⟨rfl,rfl,rfl⟩ | ⟨b,cap,C,T',rfl,rfl,ho,hC,hle,hc⟩
 . refine ⟨.int .i64 (min (s.length:Int) ([]:Str).length),{ w with drawn:=kk },w,?_,⟨kk,rfl⟩,K w (by
     have e:s.take ([]:Str).length++([]:Str).drop s.length=[]:=by simp
     rw [e,d1t hj]; exact hs)⟩
   simp only [execOp,resolve,invoke,builtin,b3S,b4E,b3O,hargs,Builtin.copy_,b5B,b5D,b4B,hT,hln,hE]
   rw [show ([]:Str).length=0 from rfl] at hfirst
   simp only [b5R] at hgi hfirst
   simp only [hfirst,b3O,b4E,hgi,b5R]
 . have hl:((s.take al.length).map bv).length=min al.length s.length:=by rw [b6F,b3U]
   have hroom:0+0+((s.take al.length).map bv).length<=C.length:=by rw [hl,hC]; simp only [n5]; omega
   obtain ⟨w',hr,ho',he',hsz',hk'⟩:=I2 (P:=P) ((s.take al.length).map bv) 0 0 C w ho hroom (fun v hv=>by obtain ⟨c,_,rfl⟩:=b5C.1 hv; rfl)
   refine ⟨.int .i64 (min (s.length:Int) al.length),{ w' with drawn:=kk },w',?_,⟨kk,rfl⟩,K w' (hs.upd j hj he' ?_ sAc (fun x hx=>⟨.inl hx,by have:=hs.lt j hj x hx; have:=he'.size; omega⟩) rfl)⟩
   . simp only [execOp,resolve,invoke,builtin,b3S,b4E,b3O,hargs,Builtin.copy_,b5B,b5D,b4B,hT,hln,hE,hfirst,b9G]
     rw [hk' kk]
     simp only [b3O,hgi]
   . have hlen:(s.take al.length++al.drop s.length).length=al.length:=by rw [b3P,b3U,b3W]; omega
     refine .inr ⟨b,cap,x7 C 0 ((s.take al.length).map bv),T',by rw [hlen],rfl,ho',by rw [E9,hC],by rw [hlen]; exact hle,fun i hi=>?_⟩
     have hi':i<al.length:=by rw [hlen] at hi; exact hi
     obtain ⟨c,h1,h2,h3⟩:=hc i hi'
     have hget:=fun k=>V3 ((s.take al.length).map bv) C 0 k (by omega)
     by_cases his:i<s.length
     . have e:(s.take al.length++al.drop s.length)[i]'hi=s[i]:=by
         rw [b6Y (by rw [b3U]; omega),b8W]
       refine ⟨[bv s[i]],rfl,fun jj hjj=>?_,by rw [e]; exact rfl⟩
       have hj0:jj=0:=by simp only [n5] at hjj; omega
       subst hj0
       have hd1:i * n5.sz+0=i:=by simp [n5]
       rw [hd1,hget,if_pos (by rw [hl]; omega),c0A,b5S,b9N,if_pos hi',b3T his]; rfl
     . have e:(s.take al.length++al.drop s.length)[i]'hi=al[i]:=by
         rw [b6U (by rw [b3U]; omega),List.getElem_drop]
         congr 1
         rw [b3U]; omega
       refine ⟨c,h1,fun jj hjj=>?_,by rw [e]; exact n5.mono h3 he' (fun x hx hz=>absurd hz (hs.nz j hj x hx)) (fun x hx _=>hx)⟩
       have hj0:jj=0:=by simp only [n5] at hjj; omega
       subst hj0
       have hd1:i * n5.sz+0=i:=by simp [n5]
       have:=h2 0 hjj
       rw [hd1] at this ⊢
       rw [hget,if_neg (by rw [hl]; omega)]; exact this
end
end Go.Wl
end
section
namespace Go.Rx
open Go Go.Wk Go.Wl
section
variable {E:Env} {C:Ctx} {n:Nat} {ops:List Oper} {Q:Exit->Fr->World->Prop} {rest:List Oper} {f:Fr} {w w':World} {d:Nat}
variable {ty T T':TypeId} {pos:String} {after:Array Edge} {x y z:Operand} {a b:Int} {ρ ρ':r9} {Z Z':Nat->Prop} {its its' lkd:a7 E.N} {nx:Nat} {s:S1 E.N}
theorem Mem.move {j id:Nat} {i i':Item E.N} {L:Loc} {t':It} (hm:Mem E C ρ Z w its nx) (hj:its[j]?=some (id,i)) (hs:Sep C.B0 C.w0 Z w' ((s6 E.N E.T ρ C.B0 its).set j t')) (hh:Go.Rx.holds E.N E.T (C1 ρ nx L) nx Z w' i') (hF:∀ b∈u5 E.N (C1 ρ nx L) nx i',b∈t'.F):Mem E C (C1 ρ nx L) Z w' ((nx,i')::its.eraseIdx j) (nx+1):=by
 have hρ:=z6 (L:=L) (hm.fr nx (b4H _))
 have hjl:=B8 hj
 have hjt:j<(s6 E.N E.T ρ C.B0 its).length:=by simpa [s6] using hjl
 refine ⟨Sep.sel hs (fun k=>match k with | 0=>j | k+1=>if k<j then k else k+1) (fun k1 k2 _ _ e=>?_) fun k t hk=>?_,fun k hk=>?_,fun k L' e=>hρ _ _ (hm.ge k L' e),hm.zge,hm.zle⟩
 . grind
 . cases k with
   | zero =>
    simp [s6] at hk
    subst hk
    refine ⟨t',?_,hh,z7,hF,rfl⟩
    simp_all
   | succ k =>
    have hk:(s6 E.N E.T (C1 ρ nx L) C.B0 (its.eraseIdx j))[k]?=some t:=hk
    obtain ⟨p,hp,rfl⟩:=B6 hk
    rw [List.getElem?_eraseIdx] at hp
    have key:∀ m,m≠j->its[m]?=some p->∃ t,((s6 E.N E.T ρ C.B0 its).set j t')[m]?=some t/\b92 C.B0 Z w' t (H2 E.N E.T (C1 ρ nx L) C.B0 p.1 p.2):=fun m hmj hp=>by
     have e:((s6 E.N E.T ρ C.B0 its).set j t')[m]?=some (H2 E.N E.T ρ C.B0 p.1 p.2):=by rw [b5H (b6D hmj)]; exact o5 hp
     exact ⟨_,e,a9d hρ (hs.at m e)⟩
    grind
 . unfold C1
   rw [if_neg (by omega)]; exact hm.fr k (by omega)
theorem c5y {k b:Nat} (h1:1<=b) (h:k * b<=140737488355328):k<=9223372036854775807:=by
 have:=b8H k h1
 omega
theorem a6d {t:Nat} {xs:List (E.N.U t)} {sx:E.SV} {cl:Call} (hm:Mem E C ρ Z w (its++lkd) nx) (hx:Rep E.N E.T ρ Z w (ev f x) sx)
  (rule:a9y E t=true->∀ {al:List (E.N.U t)} {bs O:List Nat} {L:List It},Sep C.B0 C.w0 Z w L->∀ j:Nat,L[j]?=some (iAc (E.N.tb t).r (ev f x) al bs O)->(al.length+xs.length) * (E.bytes t).getD 0<=140737488355328->(∀ A cap bs' w',Sep C.B0 C.w0 Z w' (L.set j (iAc (E.N.tb t).r (.slice A (al++xs).length cap) (al++xs) bs' O))->WL E.P false n ops Q rest (upd f d (.slice A (al++xs).length cap)) w')->WL E.P false n ops Q (⟨some d,.call cl,ty,pos,after,none⟩::rest) f w)
  (h:a3y E its nx t xs sx=some s) (ho:n6 s.ob) (hn:Nat.blt d n=true) (K:KE E C n ops Q rest f w (some d) ρ Z lkd s) :
  WL E.P false n ops Q (⟨some d,.call cl,ty,pos,after,none⟩::rest) f w:=by
 generalize hvx:ev f x=vx at hx
 unfold a3y at h
 cases sx with
 | a1K =>
  have ⟨h1,h2⟩:=j7 h
  simp only [b3N] at h2; subst h2
  obtain ⟨hE,_,info,zv,hI,hb,hb1,hz,hzs,_⟩:=S4 h1
  have ho1:xs.length * (E.bytes t).getD 0<=140737488355328:=ho.1
  rw [hb] at ho1
  cases hx
  have hs1:=Wl.Sep.fact hm.tn (t:=iAc (E.N.tb t).r (.slice none 0 0) [] [] []) Ac.nil sAc rfl rfl
  refine rule h1 (al:=[]) (bs:=[]) (O:=[]) hs1 0 (by rw [hvx]; rfl) (by simp_all) fun A cap bs' w' hs=>?_
  have hs':Sep C.B0 C.w0 Z w' (iAc (E.N.tb t).r (.slice A xs.length cap) xs bs' []::tnI Z w::s6 E.N E.T ρ C.B0 (its++lkd)):=hs
  have hac:Ac (E.N.tb t).r Z w' (.slice A xs.length cap) xs bs':=hs'.at 0 rfl
  have ⟨m1,t1⟩:=hm.lay (i:=.ac t xs) (L:=⟨0,A,xs.length,cap,bs'⟩) hs' ⟨_,k7,rfl,c5y hb1 ho1,hac⟩ (fun y hy=>by rw [u6 k7] at hy; exact hy)
  exact K _ _ _ _ m1 t1 (.acc k7) trivial
 | acc id =>
  simp only at h
  split at h
  . rename_i t' l hi
    split at h
    . rename_i ht
      subst ht
      have ⟨h1,h2⟩:=j7 h
      simp only [b3N] at h2; subst h2
      obtain ⟨hE,_,info,zv,hI,hb,hb1,hz,hzs,_⟩:=S4 h1
      have ho1:(l.length+xs.length) * (E.bytes t').getD 0<=140737488355328:=ho.1
      rw [hb] at ho1
      obtain ⟨j,hj,_,hr⟩:=v6 hi
      obtain ⟨L,hL,hn1,hlen,hac⟩:=hm.holds (n8 hj)
      cases hx with
      | acc hL' =>
       have hL:ρ id=some L:=hL
       rw [hL] at hL'; cases hL'
       have hjt:j<(s6 E.N E.T ρ C.B0 (its++lkd)).length:=by simpa [s6] using B8 (n8 (l2:=lkd) hj)
       have hs1:=Wl.Sep.upd hm.tn (j+1) (t:=H2 E.N E.T ρ C.B0 id (.ac t' l)) (t':=iAc (E.N.tb t').r (.slice L.A L.n L.cap) l L.bs C.B0) (w':=w) (by rw [b4B]; exact o5 (n8 hj)) (Ext.refl _ _) hac sAc (fun b hb=>⟨.inl (by show b∈u5 E.N ρ id (.ac t' l); rw [u6 hL]; exact hb),hac.lt b hb⟩) rfl
       refine rule h1 (al:=l) (bs:=L.bs) (O:=C.B0) hs1 (j+1) (by rw [hvx,b4Z (by simpa using hjt)]) (by simp_all) fun A cap bs' w' hs=>?_
       rw [b8N] at hs
       have t2:=a19 (Z:=Z) (w:=w) (ρ:=ρ) (ρ':=C1 ρ nx ⟨0,A,(l++xs).length,cap,bs'⟩) (k:=0) hs (by simp) (z6 (hm.fr nx (b4H _)))
       have hs2:Sep C.B0 C.w0 Z w' ((s6 E.N E.T ρ C.B0 (its++lkd)).set j (iAc (E.N.tb t').r (.slice A (l++xs).length cap) (l++xs) bs' C.B0)):=a45 (u:=tnI Z w) (by simpa using hs)
       have m1:=hm.move (i':=.ac t' (l++xs)) (L:=⟨0,A,(l++xs).length,cap,bs'⟩) (n8 hj) hs2 ⟨_,k7,rfl,by rw [b3P]; exact c5y hb1 ho1,hs2.at j (t:=iAc (E.N.tb t').r (.slice A (l++xs).length cap) (l++xs) bs' C.B0) (by rw [b4Z hjt])⟩ (fun b hb=>by rw [u6 k7] at hb; exact hb)
       refine K _ _ _ _ ?_ t2 (.acc k7) trivial
       have e:(nx,Item.ac t' (l++xs))::(its++lkd).eraseIdx j=((nx,Item.ac t' (V6 rfl l++xs))::rmv its id)++lkd:=by
        rw [hr,b8Z (B8 hj)]; rfl
       grind
    . cases h
  . cases h
 | _=>cases h
theorem b9g {t:Nat} {xs:List (E.N.U t)} {sx:E.SV} (hm:Mem E C ρ Z w (its++lkd) nx) (hT:E.a0S T=some t) (hx:Rep E.N E.T ρ Z w (ev f x) sx) (hy:Src (E.N.tb t).r Z w (ev f y) xs) (h:a3y E its nx t xs sx=some s) (ho:n6 s.ob) (hn:Nat.blt d n=true) (K:KE E C n ops Q rest f w (some d) ρ Z lkd s) :
  WL E.P false n ops Q (⟨some d,.call ⟨.builtin .append,#[x,y],#[T,T]⟩,T,pos,after,none⟩::rest) f w :=
 a6d hm hx (fun h1 {al bs O L} hs j hj hb K=>by
  obtain ⟨hE,_,info,zv,hI,hb0,hb1,hz,hzs,_⟩:=S4 h1
  rw [hb0] at hb
  exact a3z hs j hj hy (x8 hT) hI hE hz hzs hb hb1 hn K) h ho hn K
theorem c6a {P:Program} {tb:Ty1} (h8:tb=⟨UInt8,n5,⟨0⟩⟩) {s:Str} (xs:List tb.α) (e:Str=List tb.α) (hxs:cast e s=xs) {T2 el:TypeId} {info:TypeInfo} {zv:Value} {al:List tb.α} {bs O B0:List Nat} {w0:World} {L:List It} (hs:Sep B0 w0 Z w L) (j:Nat) (hj:L[j]?=some (iAc tb.r (ev f x) al bs O)) (hy:ev f y=sv s)
  (hT:∀ w,(underlying T).run P w=.ok (.slice el) w) (hT2:∀ w,(underlying T2).run P w=.ok .string w) (hI:∀ w,(typeInfo el).run P w=.ok info w) (hE:∀ w,(sizeOf el).run P w=.ok tb.r.sz w) (hz:∀ w,(zeroValue el).run P w=.ok zv w) (hzs:zv.cells.size=tb.r.sz)
  (hb:(al.length+xs.length) * info.bytes<=140737488355328) (hb1:1<=info.bytes) (hn:Nat.blt d n=true)
  (K:∀ A cap bs' w',Sep B0 w0 Z w' (L.set j (iAc tb.r (.slice A (al++xs).length cap) (al++xs) bs' O))->WL P false n ops Q rest (upd f d (.slice A (al++xs).length cap)) w') :
  WL P false n ops Q (⟨some d,.call ⟨.builtin .append,#[x,y],#[T,T2]⟩,T,pos,after,none⟩::rest) f w:=by
 subst h8
 subst hxs
 exact c4o hs j hj hy hT hT2 hI hE hz hzs hb hb1 hn K
theorem c3c {P:Program} {tb:Ty1} (h8:tb=⟨UInt8,n5,⟨0⟩⟩) {s:Str} (xs:List tb.α) (e:Str=List tb.α) (hxs:cast e s=xs) {T2 T3 el:TypeId} {al:List tb.α} {bs O B0:List Nat} {w0:World} {L:List It} (hs:Sep B0 w0 Z w L) (j:Nat) (hj:L[j]?=some (iAc tb.r (ev f x) al bs O)) (hy:ev f y=sv s)
  (hT:∀ w,(underlying T).run P w=.ok (.slice el) w) (hE:∀ w,(sizeOf el).run P w=.ok tb.r.sz w) (hn:Nat.blt d n=true)
  (K:∀ w',Sep B0 w0 Z w' (L.set j (iAc tb.r (ev f x) (xs.take al.length++al.drop xs.length) bs O))->WL P false n ops Q rest (upd f d (.int .i64 (min (xs.length:Int) al.length))) w') :
  WL P false n ops Q (⟨some d,.call ⟨.builtin .copy,#[x,y],#[T,T2]⟩,T3,pos,after,none⟩::rest) f w:=by
 subst h8
 subst hxs
 exact d3z hs j hj hy hT hE hn K
theorem c6r {t S':Nat} {sx sy:E.SV} (hm:Mem E C ρ Z w (its++lkd) nx) (hT:E.a0S T=some t) (hS:E.isStr S'=true) (hx:Rep E.N E.T ρ Z w (ev f x) sx) (hy:Rep E.N E.T ρ Z w (ev f y) sy) (h:c96 E its nx t sx sy=some s) (ho:n6 s.ob) (hn:Nat.blt d n=true) (K:KE E C n ops Q rest f w (some d) ρ Z lkd s) :
  WL E.P false n ops Q (⟨some d,.call ⟨.builtin .append,#[x,y],#[T,S']⟩,T,pos,after,none⟩::rest) f w:=by
 unfold c96 at h
 split at h
 . rename_i u
   split at h
   . rename_i xs hxs
     unfold ofBytes at hxs
     split at hxs
     . rename_i yy hyy
       split at hxs
       . rename_i h8 hb8
         simp only [b3N] at hxs
         generalize hv:ev f y=vy at hy
         cases hy with | str hl =>
         exact a6d hm hx (fun h1 {al bs O L} hs j hj hb K=>by
          obtain ⟨hE,_,info,zv,hI,hb0,hb1,hz,hzs,_⟩:=S4 h1
          rw [hb0] at hb
          exact c6a h8.down xs (by rw [h8.down]) hxs hs j hj hv (x8 hT) (P1 hS) hI hE hz hzs hb hb1 hn K) h ho hn K
       . cases hxs
     . cases hxs
   . cases h
 . cases h
theorem c82 {t S' T3:Nat} {sx sy:E.SV} (hm:Mem E C ρ Z w (its++lkd) nx) (hT:E.a0S T=some t) (hx:Rep E.N E.T ρ Z w (ev f x) sx) (hy:Rep E.N E.T ρ Z w (ev f y) sy) (h:c9q E its nx t sy sx=some s) (hn:Nat.blt d n=true) (K:KE E C n ops Q rest f w (some d) ρ Z lkd s) :
  WL E.P false n ops Q (⟨some d,.call ⟨.builtin .copy,#[x,y],#[T,S']⟩,T3,pos,after,none⟩::rest) f w:=by
 unfold c9q at h
 split at h
 . rename_i id
   split at h
   . rename_i t' l hi
     have ⟨h1,h2⟩:=j7 h
     simp only [b3R] at h1
     have et:=b3Q h1.1
     subst et
     split at h2
     . rename_i u
       split at h2
       . rename_i xs hxs
         simp only [b3N] at h2; subst h2
         unfold ofBytes at hxs
         split at hxs
         . rename_i yy hyy
           split at hxs
           . rename_i h8 hb8
             simp only [b3N] at hxs
             generalize hvy:ev f y=vy at hy
             cases hy with | str hl =>
             obtain ⟨j,hj,hu,hr⟩:=v6 hi
             obtain ⟨L,hL,hn1,hlen,hac⟩:=hm.holds (n8 hj)
             generalize hvx:ev f x=vx at hx
             cases hx with
             | acc hL' =>
              have hL:ρ id=some L:=hL
              rw [hL] at hL'; cases hL'
              have hjt:j<(s6 E.N E.T ρ C.B0 (its++lkd)).length:=by simpa [s6] using B8 (n8 (l2:=lkd) hj)
              have hs1:=Wl.Sep.upd hm.tn (j+1) (t:=H2 E.N E.T ρ C.B0 id (.ac t' l)) (t':=iAc (E.N.tb t').r (.slice L.A L.n L.cap) l L.bs C.B0) (w':=w) (by rw [b4B]; exact o5 (n8 hj)) (Ext.refl _ _) hac sAc (fun b hb=>⟨.inl (by show b∈u5 E.N ρ id (.ac t' l); rw [u6 hL]; exact hb),(hac.lt b hb)⟩) rfl
              refine c3c h8.down xs (by rw [h8.down]) hxs (al:=l) (bs:=L.bs) (O:=C.B0) hs1 (j+1) (by simp_all) hvy (x8 hT) (N8 h1.2) hn fun w' hs=>?_
              rw [hvx,b8N] at hs
              have hll:(xs.take l.length++l.drop xs.length).length=l.length:=by rw [b3P,b3U,b3W]; omega
              have t2:=a19 (Z:=Z) (w:=w) (ρ:=ρ) (ρ':=ρ) (k:=0) hs (by simp) (fun _ _ h=>h)
              have hs2:Sep C.B0 C.w0 Z w' ((s6 E.N E.T ρ C.B0 (its++lkd)).set j (iAc (E.N.tb t').r (.slice L.A L.n L.cap) (xs.take l.length++l.drop xs.length) L.bs C.B0)):=a45 (u:=tnI Z w) (by simp_all)
              have m1:=hm.turn (i':=.ac t' (xs.take l.length++l.drop xs.length)) (n8 hj) hs2 ⟨L,hL,by omega,by omega,hs2.at j (t:=iAc (E.N.tb t').r (.slice L.A L.n L.cap) (xs.take l.length++l.drop xs.length) L.bs C.B0) (by simp_all)⟩ (fun b hb=>by rw [u6 hL] at hb; exact hb)
              rw [b7O _ _ (B8 hj),<- hu] at m1
              exact K _ ρ Z w' m1 t2 (.int fun _=>by have h2:=hlen; simp only [InI]; omega) trivial
           . cases hxs
         . cases hxs
       . cases h2
     . cases h2
   . cases h
 . cases h
theorem J5.mono {α:Type} {r:Rd α} {Z Z':Nat->Prop} {w:World} (hZ:∀ b,Z b->b<w.heap.size->Z' b):∀ {cs:List (List Value)} {xs:List α},J5 r Z w cs xs->J5 r Z' w cs xs
 | [],[],_=>trivial
 | [],_::_,h=>h.elim
 | _::_,[],h=>h.elim
 | c::cs,x::xs,⟨h1,h2⟩=>⟨r.a2T h1 hZ,J5.mono hZ h2⟩
theorem c09 {t:Nat} {yy:TyI E.N E.T t} {e:Operand->E.SV}:∀ {ps:List (Nat×Operand)} {its its':a7 E.N} {Z:Nat->Prop} {xs:List (E.N.U t)},Mem E C ρ Z w (its++lkd) nx->(∀ o,Rep E.N E.T ρ Z w (ev f o) (e o))->c64 E yy e its ps=some (xs,its') ->
  ∃ Z',Mem E C ρ Z' w (its'++lkd) nx/\Tn ρ Z w ρ Z' w/\J5 (E.N.tb t).r Z' w (ps.map fun p=>(ev f p.2).cells.toList) xs/\xs.length=ps.length
 | [],its,its',Z,xs,hm,he,h=>by
  simp [c64] at h; obtain ⟨rfl,rfl⟩:=h
  exact ⟨Z,hm,Tn.refl _ _ _,trivial,rfl⟩
 | p::r,its,its',Z,xs,hm,he,h=>by
  unfold c64 at h
  split at h
  . rename_i v its1 hf
    obtain ⟨Z1,hm1,t1,hr1⟩:=a6q hm hf
    have ⟨h1,h2⟩:=j7 h
    split at h2
    . rename_i x xs' its2 hb hl
      simp only [b3N,b4P] at h2
      obtain ⟨rfl,rfl⟩:=h2
      obtain ⟨Z',hm',t',ha,hlen⟩:=c09 hm1 (fun o=>t1.rep (he o)) hl
      exact ⟨Z',hm',t1.trans t',⟨(E.N.tb t).r.a2T (yy.bk_ok ((hr1 _ (he p.2)).leaves h1) hb) t'.z,ha⟩,by simp [hlen]⟩
    . cases h2
  . cases h
theorem a5h {e:Operand->Value}:∀ {ps:List (Nat×Operand)} {i:Nat},b6h i ps=true->W6 i (ps.map fun p=>(p.1,e p.2))=true
 | [],_,_=>rfl
 | p::r,i,h=>by
  simp only [b6h,b3R] at h
  simp only [b4W,W6,b3R]
  exact ⟨h.1,a5h h.2⟩
theorem J5.sizes {α:Type} {r:Rd α} {Z:Nat->Prop} {w:World} {e:Operand->Value}:∀ {ps:List (Nat×Operand)} {xs:List α},J5 r Z w (ps.map fun p=>(e p.2).cells.toList) xs->(ps.map fun p=>(p.1,e p.2)).all (fun p=>Nat.beq p.2.cells.size r.sz)=true
 | [],_,_=>rfl
 | _::_,[],h=>h.elim
 | p::ps,x::xs,⟨h1,h2⟩=>by
  simp only [b4W,b7A,b3R]
  refine ⟨?_,J5.sizes h2⟩
  have:=r.len h1
  simp_all
theorem d4a {e:Operand->E.SV} {len:Nat} {ps:Array (Nat×Operand)} (hm:Mem E C ρ Z w (its++lkd) nx) (he:∀ o,Rep E.N E.T ρ Z w (ev f o) (e o)) (h:d3a E its nx e T len ps.toList=some s) (hn:Nat.blt d n=true) (K:KE E C n ops Q rest f w (some d) ρ Z lkd s) :
  WL E.P false n ops Q (⟨some d,.buildSlice T len ps,ty,pos,after,none⟩::rest) f w:=by
 unfold d3a at h
 split at h
 . rename_i t hT
   split at h
   . rename_i yy hty
     have ⟨h1,h2⟩:=j7 h
     clear h
     simp only [b3R] at h1
     obtain ⟨⟨⟨h1,ho⟩,hl⟩,hsm⟩:=h1
     have hl:=b3Q hl
     split at h2
     . rename_i xs its' hlit
       simp only [b3N] at h2; subst h2
       obtain ⟨Z1,hm1,t1,ha,hlen⟩:=c09 hm he hlit
       obtain ⟨hE,hp,info,zv,hI,hb,hb1,hz,hzs,_⟩:=S4 h1
       have hsm':=b4T hsm
       refine a0o (css:=ps.toList.map fun p=>(ev f p.2).cells.toList) (al:=xs) hm1.tn (x8 hT) hE hz rfl (by simp_all) (a5h ho) (J5.sizes ha) (by simp [List.flatMap_def,List.map_map]; rfl) hsm (by rw [hlen,hl]) ha hn fun b w' hs=>?_
       have hac:=hs.at 0 rfl
       have hxl:xs.length=len:=by rw [hlen,hl]
       have ⟨m1,t2⟩:=hm1.lay (i:=.ac t xs) (L:=⟨0,some ⟨b,0,none⟩,len,len,[b]⟩) hs ⟨_,k7,hxl.symm,by have:=b8H len hp; omega,hac⟩ (fun y hy=>by rw [u6 k7] at hy; exact hy)
       exact K _ _ _ _ m1 (t1.trans t2) (.acc k7) trivial
     . cases h2
   . cases h
 . cases h
theorem d0j {sx sy:E.SV} (hm:Mem E C ρ Z w (its++lkd) nx) (hx:Rep E.N E.T ρ Z w (ev f x) sx) (hy:Rep E.N E.T ρ Z w (ev f y) sy) (h:c7l E its nx T sx sy=some s) (ho:n6 s.ob) (hn:Nat.blt d n=true) (K:KE E C n ops Q rest f w (some d) ρ Z lkd s) :
  WL E.P false n ops Q (⟨some d,.makeSlice T x y,ty,pos,after,none⟩::rest) f w:=by
 unfold c7l at h
 split at h
 . rename_i t a b hT ha hb
   split at h
   . rename_i yy hty
     have ⟨h1,h2⟩:=j7 h
     clear h
     split at h2
     . rename_i zx hz0
       simp only [b3N] at h2; subst h2
       obtain ⟨hE,hp,info,zv,hI,hbb,hb1,hz,hzs,hzv⟩:=S4 h1
       simp only [b5L] at hz0
       obtain ⟨sz,hsz,hbk⟩:=hz0
       have ⟨hf,hbk⟩:=j7 hbk
       unfold Env.zero at hsz
       rw [hzv] at hsz
       simp only [b9E,b3N] at hsz
       have ho1:0<=a:=ho.1
       have ho2:a=b:=ho.2.1
       have ho3:(((E.bytes t).getD 0:Nat):Int) * a<=140737488355328:=ho.2.2.1
       rw [hbb] at ho3
       have ha2:a<=140737488355328:=by
        have:1 * a<=(info.bytes:Int) * a:=Int.mul_le_mul_of_nonneg_right (by omega) ho1
        omega
       have hx':=b31 hx ha
       have hy':=b31 hy hb
       rw [<- ho2] at hy'
       have hzr:∀ (Z:Nat->Prop) (w:World),(E.N.tb t).r.rd Z w zv.cells.toList zx:=fun Z w=>by
        refine yy.bk_ok (ρ:=ρ) (Rep.leaves ?_ hf) hbk
        rw [<- hsz]; exact a6t
       refine a64 (zc:=zv.cells.toList) (zx:=zx) hm.tn (x8 hT) hI hE hz (by simp) rfl hp hzr hx' hy' ho1 ho3 (by omega) hn fun b w' hs=>?_
       have hac:=hs.at 0 rfl
       have ⟨m1,t2⟩:=hm.lay (i:=.ac t (List.replicate a.toNat zx)) (L:=⟨0,some ⟨b,0,none⟩,a.toNat,a.toNat,[b]⟩) hs ⟨_,k7,by simp,by grind,hac⟩ (fun y hy=>by rw [u6 k7] at hy; exact hy)
       exact K _ _ _ _ m1 t2 (.acc k7) trivial
     . cases h2
   . cases h
 . cases h
theorem b88 {t:Nat} (h:E.N.tb t=⟨UInt8,n5,⟨0⟩⟩) (l:Str) (e:Str=List (E.N.U t)) {v:Value} {Z:Nat->Prop} {w:World} :
  (cast e l:List (E.N.U t)).length=l.length/\∀ bs,Ac n5 Z w v l bs->Ac (E.N.tb t).r Z w v (cast e l) bs:=by
 grind
theorem c3g {S D:Nat} {sx:E.SV} (hm:Mem E C ρ Z w (its++lkd) nx) (hx:Rep E.N E.T ρ Z w (ev f x) sx) (h:b85 E its nx S D sx=some s) (hn:Nat.blt d n=true) (K:KE E C n ops Q rest f w (some d) ρ Z lkd s) :
  WL E.P false n ops Q (⟨some d,.convert S D x,ty,pos,after,none⟩::rest) f w:=by
 unfold b85 at h
 split at h
 . rename_i t
   split at h
   . rename_i e hD
     have ⟨h1,h2⟩:=j7 h
     clear h
     split at h2
     . rename_i hi
       split at h2
       . rename_i l hl
         simp only [b3N] at h2; subst h2
         generalize hv:ev f x=vx at hx
         cases hx with | str hlen =>
         have hS:E.P.underlying S=some .string:=by
          unfold Env.isStr at h1; split at h1
          . assumption
          . cases h1
         have hT:E.P.underlying D=some (.slice e):=by
          unfold Env.a0S at hD; split at hD
          . simp_all
          . cases hD
         have hE:E.P.underlying e=some (.int .u8):=by
          unfold Env.intOf at hi; split at hi
          . simp_all
          . cases hi
         unfold ofBytes at hl
         split at hl
         . rename_i yy hy
           split at hl
           . rename_i h8 hb8
             simp only [b3N] at hl
             refine d1u hm.tn hS hT hE hv hn fun b cap w' hs=>?_
             have hac:=hs.at 0 rfl
             have hc:=b88 (Z:=Z) (w:=w') (v:=.slice (some ⟨b,0,none⟩) t.length cap) h8.down t (by grind)
             rw [hl] at hc
             have hac2:=hc.2 [b] hac
             have hs2:=hs.upd 0 rfl (Ext.refl _ _) (t':=iAc (E.N.tb e).r (.slice (some ⟨b,0,none⟩) t.length cap) l [b] []) hac2 sAc (fun x hx=>⟨.inl hx,hs.lt 0 rfl x hx⟩) rfl
             have ⟨m1,t2⟩:=hm.lay (i:=.ac e l) (L:=⟨0,some ⟨b,0,none⟩,t.length,cap,[b]⟩) hs2 ⟨_,k7,hc.1.symm,by omega,hac2⟩ (fun y hy=>by rw [u6 k7] at hy; exact hy)
             exact K _ _ _ _ m1 t2 (.acc k7) trivial
           . cases hl
         . cases hl
       . cases h2
     . cases h2
   . cases h
 . cases h
theorem c23 {e:Operand->E.SV} {sz:Nat} (he:∀ o,Rep E.N E.T ρ Z w (ev f o) (e o)):∀ {ps:List (Nat×Operand)} {ls:List E.SV},d1g e sz ps=some ls ->
  j8 E.N E.T ρ Z w (ps.flatMap fun p=>(ev f p.2).cells.toList) ls/\(ps.map fun p=>(p.1,ev f p.2)).all (fun p=>Nat.beq p.2.cells.size sz)=true/\(ps.flatMap fun p=>(ev f p.2).cells.toList).length=ps.length * sz
 | [],ls,h=>by cases h; exact ⟨j8.nil,rfl,by simp⟩
 | p::r,ls,h=>by
  unfold d1g at h
  have ⟨h1,h2⟩:=j7 h
  simp only [b3R] at h1
  obtain ⟨hf,hl⟩:=h1
  have hl:=b3Q hl
  split at h2
  . rename_i ls' hr
    cases h2
    obtain ⟨g1,g2,g3⟩:=c23 he hr
    have hlv:=(he p.2).leaves hf
    have hsz:(ev f p.2).cells.toList.length=sz:=by rw [hlv.len,hl]
    refine ⟨by rw [b9V]; exact j8.app hlv g1,?_,?_⟩
    all_goals grind
  . cases h2
theorem c6f {e:Operand->E.SV} {len:Nat} {ps:Array (Nat×Operand)} (hm:Mem E C ρ Z w (its++lkd) nx) (he:∀ o,Rep E.N E.T ρ Z w (ev f o) (e o)) (h:b46 E its nx e T len ps.toList=some s) (hn:Nat.blt d n=true) (K:KE E C n ops Q rest f w (some d) ρ Z lkd s) :
  WL E.P false n ops Q (⟨some d,.buildSlice T len ps,ty,pos,after,none⟩::rest) f w:=by
 unfold b46 at h
 split at h
 . rename_i t hT
   have ⟨h1,h2⟩:=j7 h
   clear h
   simp only [b3R] at h1
   obtain ⟨⟨⟨⟨⟨⟨_,h1⟩,ho⟩,hl⟩,hsm⟩,hbig⟩,hpos⟩:=h1
   have hl:=b3Q hl
   have hbig:=b4T hbig
   split at h2
   . rename_i ls hlit
     simp only [b3N] at h2; subst h2
     obtain ⟨hE,hp,info,zv,hI,hb,hb1,hz,hzs,_⟩:=S4 h1
     obtain ⟨g1,g2,g3⟩:=c23 he hlit
     refine c2w (cs:=ps.toList.flatMap fun p=>(ev f p.2).cells.toList) hm.tn (x8 hT) hE hz rfl (by simp_all) (a5h ho) g2 (by simp [List.flatMap_map]) (by rw [g3,hl]) hsm hn fun b w' hs=>?_
     have hrw:=hs.at 0 rfl
     have t0:=a19 (ρ:=ρ) (ρ':=ρ) (k:=1) hs rfl (fun _ _ h=>h)
     have hr:=Rep.sub (t0.rep g1) (z6 (L:=⟨b,some ⟨b,0,none⟩,len,len,[b]⟩) (hm.fr nx (b4H _)))
     have ⟨m1,t1⟩:=hm.lay (i:=.rw t len ls) (L:=⟨b,some ⟨b,0,none⟩,len,len,[b]⟩) hs ⟨_,_,k7,rfl,hbig,fun _=>rfl,hrw,hr⟩ (fun y hy=>by rw [E7 k7] at hy; exact hy)
     exact K _ _ _ _ m1 t1 (.acc k7) trivial
   . cases h2
 . cases h
theorem c48 {sx:E.SV} {id off t nn:Nat} {cells:List E.SV} (hm:Mem E C ρ Z w (its++lkd) nx) (ha:Rep E.N E.T ρ Z w (ev f x) (.ref id off)) (hx:Rep E.N E.T ρ Z w (ev f y) sx) (hi:lk its id=some (.rw t nn cells)) (hn0:0<nn) {mm:Nat} (hz:E.size T=some mm) (hle:off+mm<=cells.length) (hf:flat sx=true) (hl:(leaves sx).length=mm)
  (K:KE E C n ops Q rest f w none ρ Z lkd ⟨[],[],.un,a1w its id (.rw t nn (a1A E cells off (leaves sx))),nx⟩) :
  WL E.P false n ops Q (⟨none,.store T x y,ty,pos,after,none⟩::rest) f w:=by
 obtain ⟨j,hj,hu,_⟩:=v6 hi
 have hj':(its++lkd)[j]?=some (id,.rw t nn cells):=n8 hj
 obtain ⟨L,F,hL,hn1,hb,hA,hrw,hr⟩:=hm.holds hj'
 generalize hv:ev f x=vx at ha
 cases ha with
 | ref hL' =>
  have hL:ρ id=some L:=hL
  rw [hL] at hL'; cases hL'
  have hA:=hA hn0
  rw [hA] at hrw
  have hlv:=hx.leaves hf
  have hcl:=hr.len
  have hs1:=Wl.Sep.upd hm.tn (j+1) (t:=H2 E.N E.T ρ C.B0 id (.rw t nn cells)) (t':=iRw (E.N.tb t).r.sz (.slice (some ⟨L.b,0,none⟩) nn L.cap) nn F L.bs C.B0) (w':=w) (by rw [b4B]; exact o5 hj') (Ext.refl _ _) hrw sRw (fun b hb=>⟨.inl (by show b∈u5 E.N ρ id (.rw t nn cells); rw [E7 hL]; exact hb),hrw.lt b hb⟩) rfl
  have hjt:j<(s6 E.N E.T ρ C.B0 (its++lkd)).length:=by simpa [s6] using B8 hj'
  refine c31 hs1 (j+1) (O:=C.B0) (by rw [b4Z (by simp_all)]) (J8 hz) hv (c:=(ev f y).cells.toList) rfl (by rw [hlv.len,hl]) (by omega) hlv.plain fun w' hs=>?_
  rw [b8N] at hs
  have t1:=a19 (Z:=Z) (w:=w) (ρ:=ρ) (ρ':=ρ) (k:=0) hs (by simp) (fun _ _ h=>h)
  have hs2:Sep C.B0 C.w0 Z w' ((s6 E.N E.T ρ C.B0 (its++lkd)).set j (iRw (E.N.tb t).r.sz (.slice (some ⟨L.b,0,none⟩) nn L.cap) nn (x7 F off (ev f y).cells.toList) L.bs C.B0)):=a45 (u:=tnI Z w) (by simp_all)
  have hnew:=hs2.at j (t:=iRw (E.N.tb t).r.sz (.slice (some ⟨L.b,0,none⟩) nn L.cap) nn (x7 F off (ev f y).cells.toList) L.bs C.B0) (by simp_all)
  have m1:=hm.turn (i':=.rw t nn (a1A E cells off (leaves sx))) hj' hs2 ⟨L,x7 F off (ev f y).cells.toList,hL,hn1,hb,fun _=>hA,by simp_all,j8.a1A (show j8 E.N E.T ρ Z w' F cells from t1.rep hr) (show j8 E.N E.T ρ Z w' _ _ from t1.rep hlv)⟩ (fun b hb=>by rw [E7 hL] at hb; exact hb)
  refine K .nilIface ρ Z w' ?_ t1 .un trivial
  grind
theorem b8t {k:Int} {hi:Operand} {sx:E.SV} (hm:Mem E C ρ Z w (its++lkd) nx) (hx:Rep E.N E.T ρ Z w (ev f x) sx) (hk:ev f hi=.int .i64 k) (h:b34 E its nx T k sx=some s) (ho:n6 s.ob) (hn:Nat.blt d n=true) (K:KE E C n ops Q rest f w (some d) ρ Z lkd s) :
  WL E.P false n ops Q (⟨some d,.slice T x none (some hi) none,ty,pos,after,none⟩::rest) f w:=by
 unfold b34 at h
 split at h
 . rename_i id
   split at h
   . rename_i e t nn cells hT hit
     have ⟨h1,h2⟩:=j7 h
     simp only [b3N] at h2; subst h2
     simp only [b3R] at h1
     obtain ⟨h1,hn0⟩:=h1
     have hn0:=D3 hn0
     have hk0:0<=k:=ho.1
     have hk1:k<=(nn:Int):=ho.2.1
     obtain ⟨j,hj,_,hr⟩:=v6 hit
     obtain ⟨L,F,hL,hn1,hb,hA,hrw,hrep⟩:=hm.holds (n8 hj)
     have hA:=hA hn0
     generalize hv:ev f x=vx at hx
     cases hx with
     | acc hL' =>
      have hL:ρ id=some L:=hL
      rw [hL] at hL'; cases hL'
      have hcap:L.n<=L.cap:=by
       rw [hn1]
       rcases hrw with ⟨e1,h0,_⟩ | ⟨_,cap',_,_,e1,_,_,_,hc,_⟩
       . omega
       . simp_all
      refine a8g (lo:=none) (hi:=some hi) (a:=0) (b:=k) (x8 hT) (N8 h1) hv rfl hk ⟨b5G _,hk0,by omega⟩ hcap hn ?_
      have ev2:(if L.cap=(0:Int).toNat then L.A else L.A.map (·.add ((0:Int).toNat * (E.N.tb t).r.sz)))=some ⟨L.b,0,none⟩:=by
       rw [if_neg (by omega),hA]
       simp [Addr.add]
      rw [ev2,show k.toNat-(0:Int).toNat=k.toNat from rfl,show L.cap-(0:Int).toNat=L.cap from rfl]
      rw [hA] at hrw
      have htk:=hrw.take (k:=k.toNat) (by omega)
      have hjt:j<(s6 E.N E.T ρ C.B0 (its++lkd)).length:=by simpa [s6] using B8 (n8 (l2:=lkd) hj)
      have hs1:=Wl.Sep.upd hm.tn (j+1) (t:=H2 E.N E.T ρ C.B0 id (.rw t nn cells)) (t':=iRw (E.N.tb t).r.sz (.slice (some ⟨L.b,0,none⟩) k.toNat L.cap) k.toNat (F.take (k.toNat * (E.N.tb t).r.sz)) L.bs C.B0) (w':=w) (by rw [b4B]; exact o5 (n8 hj)) (Ext.refl _ _) htk sRw (fun b hb=>⟨.inl (by show b∈u5 E.N ρ id (.rw t nn cells); rw [E7 hL]; exact hb),htk.lt b hb⟩) rfl
      have t2:=a19 (Z:=Z) (w:=w) (ρ:=ρ) (ρ':=C1 ρ nx ⟨L.b,some ⟨L.b,0,none⟩,k.toNat,L.cap,L.bs⟩) (k:=0) hs1 (by simp) (z6 (hm.fr nx (b4H _)))
      have hs2:Sep C.B0 C.w0 Z w ((s6 E.N E.T ρ C.B0 (its++lkd)).set j (iRw (E.N.tb t).r.sz (.slice (some ⟨L.b,0,none⟩) k.toNat L.cap) k.toNat (F.take (k.toNat * (E.N.tb t).r.sz)) L.bs C.B0)):=a45 (u:=tnI Z w) (by simp_all)
      have m1:=hm.move (i':=.rw t k.toNat (cells.take (k.toNat * (E.N.tb t).r.sz))) (L:=⟨L.b,some ⟨L.b,0,none⟩,k.toNat,L.cap,L.bs⟩) (n8 hj) hs2 ⟨_,F.take (k.toNat * (E.N.tb t).r.sz),k7,rfl,by omega,fun _=>rfl,htk,Rep.sub ((hrep.drop 0).take (k.toNat * (E.N.tb t).r.sz)) (z6 (hm.fr nx (b4H _)))⟩ (fun b hb=>by rw [E7 k7] at hb; exact hb)
      refine K _ _ _ _ ?_ t2 (.acc k7) trivial
      grind
   . cases h
 . cases h
theorem c4m {t id id2:Nat} (hm:Mem E C ρ Z w (its++lkd) nx) (hT:E.a0S T=some t) (hx:Rep E.N E.T ρ Z w (ev f x) (.acc id)) (hy:Rep E.N E.T ρ Z w (ev f y) (.acc id2)) (h:b8x E its nx t id id2=some s) (ho:n6 s.ob) (hn:Nat.blt d n=true) (K:KE E C n ops Q rest f w (some d) ρ Z lkd s) :
  WL E.P false n ops Q (⟨some d,.call ⟨.builtin .append,#[x,y],#[T,T]⟩,T,pos,after,none⟩::rest) f w:=by
 unfold b8x at h
 split at h
 . rename_i t1 n1 c1 t2 m2 c2 hi1 hi2
   have ⟨h1,h2⟩:=j7 h
   simp only [b3N] at h2; subst h2
   simp only [b3R] at h1
   obtain ⟨⟨⟨⟨⟨e1,e2⟩,_⟩,h1⟩,hbig⟩,hpos⟩:=h1
   have e1:=b3Q e1
   have e2:=b3Q e2
   have hbig:=b4T hbig
   have hpos:=D3 hpos
   subst e1; subst e2
   obtain ⟨hE,_,info,zv,hI,hb,hb1,hz,hzs,_⟩:=S4 h1
   have ho1:(n1+m2) * (E.bytes t2).getD 0<=140737488355328:=ho.1
   rw [hb] at ho1
   obtain ⟨j,hj,_,hr⟩:=v6 hi1
   obtain ⟨j2,hj2,_,_⟩:=v6 hi2
   obtain ⟨L,F,hL,hn1,hbb,hA,hrw,hrep⟩:=hm.holds (n8 hj)
   obtain ⟨L2,F2,hL2,hn2,_,_,hrw2,hrep2⟩:=hm.holds (n8 hj2)
   have hL:ρ id=some L:=hL
   have hL2:ρ id2=some L2:=hL2
   have hac:=hrw.ac (Z:=Z) hrep.plain
   have hac2:=hrw2.ac (Z:=Z) hrep2.plain
   have hF1:F.length=n1 * (E.N.tb t2).r.sz:=by
    rcases hrw with ⟨_,h0,hF0,_⟩ | ⟨_,_,_,_,_,_,_,_,_,h⟩
    . simp_all
    . exact h
   have hF2:F2.length=m2 * (E.N.tb t2).r.sz:=by
    rcases hrw2 with ⟨_,h0,hF0,_⟩ | ⟨_,_,_,_,_,_,_,_,_,h⟩
    . omega
    . exact h
   obtain ⟨f1,l1,_⟩:=a1t hF1
   obtain ⟨f2,l2,_⟩:=a1t hF2
   generalize hvx:ev f x=vx at hx
   generalize hvy:ev f y=vy at hy
   cases hx with
   | acc hL' =>
    cases hy with
    | acc hL2' =>
     rw [hL] at hL'; cases hL'
     rw [hL2] at hL2'; cases hL2'
     rw [hn1] at hvx
     rw [hn2] at hvy
     have hjt:j<(s6 E.N E.T ρ C.B0 (its++lkd)).length:=by simpa [s6] using B8 (n8 (l2:=lkd) hj)
     have hs1:=Wl.Sep.upd hm.tn (j+1) (t:=H2 E.N E.T ρ C.B0 id (.rw t2 n1 c1)) (t':=iAc (b96 (E.N.tb t2).r.sz) (.slice L.A n1 L.cap) (I6 (E.N.tb t2).r.sz n1 F) L.bs C.B0) (w':=w) (by rw [b4B]; exact o5 (n8 hj)) (Ext.refl _ _) hac sAc (fun b hb=>⟨.inl (by show b∈u5 E.N ρ id (.rw t2 n1 c1); rw [E7 hL]; exact hb),hac.lt b hb⟩) rfl
     refine a3z (r:=b96 (E.N.tb t2).r.sz) (al:=I6 (E.N.tb t2).r.sz n1 F) (xs:=I6 (E.N.tb t2).r.sz m2 F2) (bs:=L.bs) (O:=C.B0) hs1 (j+1) (by simp_all) (by rw [hvy]; exact Src.ac hac2) (x8 hT) hI hE hz hzs (by simp_all) hb1 hn fun A cap bs' w' hs=>?_
     rw [b8N] at hs
     have hlen:(I6 (E.N.tb t2).r.sz n1 F++I6 (E.N.tb t2).r.sz m2 F2).length=n1+m2:=by rw [b3P,l1,l2]
     rw [hlen] at hs ⊢
     have hacn:Ac (b96 (E.N.tb t2).r.sz) Z w' (.slice A (n1+m2) cap) (I6 (E.N.tb t2).r.sz n1 F++I6 (E.N.tb t2).r.sz m2 F2) bs':=hs.at (j+1) (t:=iAc (b96 (E.N.tb t2).r.sz) (.slice A (n1+m2) cap) (I6 (E.N.tb t2).r.sz n1 F++I6 (E.N.tb t2).r.sz m2 F2) bs' C.B0) (by simp_all)
     have hrn:=(W0.of hacn).1
     rw [hlen,List.flatten_append,f1,f2] at hrn
     obtain ⟨b',hA',hbs',_⟩:=hrn.cells (by omega)
     have hρ':=z6 (L:=⟨b',A,n1+m2,cap,bs'⟩) (hm.fr nx (b4H _))
     have t2':=a19 (Z:=Z) (w:=w) (ρ:=ρ) (ρ':=C1 ρ nx ⟨b',A,n1+m2,cap,bs'⟩) (k:=0) hs (by simp) hρ'
     have hs2:Sep C.B0 C.w0 Z w' ((s6 E.N E.T ρ C.B0 (its++lkd)).set j (iAc (b96 (E.N.tb t2).r.sz) (.slice A (n1+m2) cap) (I6 (E.N.tb t2).r.sz n1 F++I6 (E.N.tb t2).r.sz m2 F2) bs' C.B0)):=a45 (u:=tnI Z w) (by simp_all)
     have m1:=hm.move (i':=.rw t2 (n1+m2) (c1++c2)) (L:=⟨b',A,n1+m2,cap,bs'⟩) (n8 hj) hs2 ⟨_,F++F2,k7,rfl,hbig,fun _=>hA',hrn,j8.app (t2'.rep hrep) (t2'.rep hrep2)⟩ (fun b hb=>by rw [E7 k7] at hb; exact hb)
     refine K _ _ _ _ ?_ t2' (.acc k7) trivial
     grind
 . cases h
theorem b4j {t:Nat} {yy:TyI E.N E.T t}:∀ {m:Nat} {ls:List E.SV} {its its':a7 E.N} {Z:Nat->Prop} {xs:List (E.N.U t)} {F:List Value},Mem E C ρ Z w (its++lkd) nx->j8 E.N E.T ρ Z w F ls->F.length=m * (E.N.tb t).r.sz->b50 E yy m ls its=some (xs,its') ->
  ∃ Z',Mem E C ρ Z' w (its'++lkd) nx/\Tn ρ Z w ρ Z' w/\xs.length=m/\J5 (E.N.tb t).r Z' w (I6 (E.N.tb t).r.sz m F) xs
 | 0,ls,its,its',Z,xs,F,hm,hr,hl,h=>by
  simp [b50] at h; obtain ⟨rfl,rfl⟩:=h
  exact ⟨Z,hm,Tn.refl _ _ _,rfl,trivial⟩
 | m+1,ls,its,its',Z,xs,F,hm,hr,hl,h=>by
  unfold b50 at h
  split at h
  . rename_i vs its1 hf
    split at h
    . rename_i x xs' its2 hb hrr
      simp only [b3N,b4P] at h
      obtain ⟨rfl,rfl⟩:=h
      obtain ⟨Z1,m1,t1,e1⟩:=a2o hm hf
      have g1:j8 E.N E.T ρ Z w (F.take (E.N.tb t).r.sz) (ls.take (E.N.tb t).r.sz):=by simpa using (hr.drop 0).take (E.N.tb t).r.sz
      have hx:(E.N.tb t).r.rd Z1 w (F.take (E.N.tb t).r.sz) x:=yy.bk_ok (s:=.agg vs) (e1.b3D g1) hb
      obtain ⟨Z2,m2,t2,l2,a2⟩:=b4j m1 (show j8 E.N E.T ρ Z1 w _ _ from t1.rep (hr.drop (E.N.tb t).r.sz)) (by grind) hrr
      exact ⟨Z2,m2,t1.trans t2,by simp [l2],(E.N.tb t).r.a2T hx t2.z,a2⟩
    . cases h
  . cases h
theorem e2i {t n:Nat} {w:World} {v:Value} {F:List Value} {bs:List Nat} (h:W0 t w v n F bs):F.length=n * t:=by
 rcases h with ⟨_,h0,hF0,_⟩ | ⟨_,_,_,_,_,_,_,_,_,h⟩
 all_goals simp_all
theorem c39 {t id:Nat} (hm:Mem E C ρ Z w (its++lkd) nx) (h:a7q E its t id=some its'):∃ Z',Mem E C ρ Z' w (its'++lkd) nx/\Tn ρ Z w ρ Z' w:=by
 unfold a7q at h
 split at h
 . rename_i t' m ls hi
   have ⟨ht,h2⟩:=j7 h
   clear h
   have ht:=b3Q ht
   subst ht
   split at h2
   . rename_i yy hty
     split at h2
     . rename_i xs its1 hrows
       split at h2
       . rename_i t2 m2 ls2 hi2
         have ⟨hb,h3⟩:=j7 h2
         clear h2
         simp only [b3R] at hb
         obtain ⟨e1,e2⟩:=hb
         have e1:=b3Q e1
         have e2:=b3Q e2
         subst e1; subst e2
         simp only [b3N] at h3; subst h3
         obtain ⟨j,hj,_,_⟩:=v6 hi
         obtain ⟨L,F,hL,hn1,hb,hA,hrw,hrep⟩:=hm.holds (n8 hj)
         have hL:ρ id=some L:=hL
         obtain ⟨Z1,m1,t1,hxl,ha⟩:=b4j hm hrep (e2i hrw) hrows
         obtain ⟨j2,hj2,hu2,_⟩:=v6 hi2
         obtain ⟨L',F',hL',hn1',_,_,hrw',_⟩:=m1.holds (n8 hj2)
         have hL':ρ id=some L':=hL'
         rw [hL] at hL'; cases hL'
         have hac:=hrw.b3I ha hxl rfl
         have hjt:j2<(s6 E.N E.T ρ C.B0 (its1++lkd)).length:=by simpa [s6] using B8 (n8 (l2:=lkd) hj2)
         have hs1:=Wl.Sep.upd m1.sep j2 (t:=H2 E.N E.T ρ C.B0 id (.rw t2 m2 ls2)) (t':=iAc (E.N.tb t2).r (.slice L.A m2 L.cap) xs L.bs C.B0) (w':=w) (o5 (n8 hj2)) (Ext.refl _ _) hac sAc (fun b hb=>⟨.inl (by show b∈u5 E.N ρ id (.rw t2 m2 ls2); rw [E7 hL]; exact hb),hac.lt b hb⟩) rfl
         have m2':=m1.turn (i':=.ac t2 xs) (n8 hj2) hs1 ⟨L,hL,by omega,by omega,by simp_all⟩ (fun b hb=>by rw [u6 hL] at hb; exact hb)
         grind
       . cases h2
     . cases h2
   . cases h2
 . cases h
theorem b6b {e:Operand->E.SV} (hm:Mem E C ρ Z w (its++lkd) nx) (he:∀ o,Rep E.N E.T ρ Z w (ev f o) (e o)) {c:Call} (h:a7h E its nx e c ty=some s) (ho:n6 s.ob) (hn:Nat.blt d n=true) (K:KE E C n ops Q rest f w (some d) ρ Z lkd s) :
  WL E.P false n ops Q (⟨some d,.call c,ty,pos,after,none⟩::rest) f w:=by
 obtain ⟨cal,args,Ts⟩:=c
 simp only [a7h] at h
 cases cal with
 | builtin b =>
  cases b with
  | append =>
   simp only at h
   split at h
   . rename_i x y S S' ha hT
     obtain rfl:=b5o ha
     obtain rfl:=b5o hT
     cases hb:(Nat.beq S S' && Nat.beq S ty) with
     | true =>
      rw [hb,b4G] at h
      simp only [b3R] at hb
      obtain ⟨e1,e2⟩:=hb
      have e1:=b3Q e1
      have e2:=b3Q e2
      subst e1; subst e2
      split at h
      . rename_i t hs
        split at h
        . rename_i xs hxs
          exact b9g hm hs (he x) (d1s hm (he y) hxs) h ho hn K
        . cases h
      . cases h
     | false =>
      rw [hb,b4X] at h
      have ⟨h1,h2⟩:=j7 h
      simp only [b3R] at h1
      have e2:=b3Q h1.1
      subst e2
      split at h2
      . rename_i t hs
        exact c6r hm hs h1.2 (he x) (he y) h2 ho hn K
      . cases h2
   . cases h
  | copy =>
   simp only at h
   split at h
   . rename_i x y S S' ha hT
     obtain rfl:=b5o ha
     obtain rfl:=b5o hT
     have ⟨h1,h2⟩:=j7 h
     split at h2
     . rename_i t hs
       exact c82 hm hs (he x) (he y) h2 hn K
     . cases h2
   . cases h
  | _=>cases h
 | _=>cases h
theorem c66 {e:Operand->E.SV} (hm:Mem E C ρ Z w (its++lkd) nx) (he:∀ o,Rep E.N E.T ρ Z w (ev f o) (e o)) {c:Call} (h:b5n E its nx e c ty=some s) (ho:n6 s.ob) (hn:Nat.blt d n=true) (K:KE E C n ops Q rest f w (some d) ρ Z lkd s) :
  WL E.P false n ops Q (⟨some d,.call c,ty,pos,after,none⟩::rest) f w:=by
 have rec1:∀ {t id2:Nat},(match a7q E its t id2 with | some its'=>a7h E its' nx e c ty | none=>none)=some s->WL E.P false n ops Q (⟨some d,.call c,ty,pos,after,none⟩::rest) f w:=fun {t id2} h=>by
  split at h
  . rename_i its' hrc
    obtain ⟨Z1,m1,t1⟩:=c39 hm hrc
    exact b6b m1 (fun o=>t1.rep (he o)) h ho hn (fun v ρ' Z' w' m t r hy=>K v ρ' Z' w' m (t1.trans t) r hy)
  . cases h
 unfold b5n at h
 split at h
 . rename_i x y S hap
   split at h
   . rename_i t hT
     split at h
     . rename_i id2 hy
       split at h
       . split at h
         . rename_i id hx
           split at h
           . obtain ⟨cal,args,Ts⟩:=c
             unfold e2y at hap
             simp only at hap
             split at hap
             . split at hap
               . split at hap
                 . rename_i x' y' S1 S2 ha hTs
                   obtain rfl:=b5o ha
                   obtain rfl:=b5o hTs
                   have ⟨h1,h2⟩:=j7 hap
                   simp only [b3N,b4P] at h2
                   obtain ⟨rfl,rfl,rfl⟩:=h2
                   simp only [b3R] at h1
                   have e1:=b3Q h1.1
                   have e2:=b3Q h1.2
                   subst e1; subst e2
                   have rx:=he x'
                   have ry:=he y'
                   rw [hx] at rx
                   rw [hy] at ry
                   exact c4m hm hT rx ry h ho hn K
                 . cases hap
               . cases hap
             . cases hap
           . exact rec1 h
         . exact rec1 h
       . cases h
     . cases h
   . cases h
 . cases h
theorem b5t {e:Operand->E.SV} (hE:l7 E) (hm:Mem E C ρ Z w (its++lkd) nx) (he:∀ o,Rep E.N E.T ρ Z w (ev f o) (e o)) {op:Op} {d:Option Nat} (h:c0m E its nx e op ty=some s) (ho:n6 s.ob) (hn:match op with | .store _ _ _=>d=none | _=>∃ d',d=some d'/\Nat.blt d' n=true) (K:KE E C n ops Q rest f w d ρ Z lkd s) :
  WL E.P false n ops Q (⟨d,op,ty,pos,after,none⟩::rest) f w:=by
 unfold c0m at h
 cases op with
 | alloc T=>obtain ⟨d',rfl,hn⟩:=hn; exact c2x hE hm h hn K
 | box T x =>
  obtain ⟨d',rfl,hn⟩:=hn
  have ⟨h1,h2⟩:=j7 h
  simp only [b3N] at h2; subst h2
  exact d3w hm (he x) h1 hn K
 | makeInterface T x=>obtain ⟨d',rfl,hn⟩:=hn; exact c4c hm (he x) h ho hn K
 | store T a x =>
  simp only at hn; subst hn
  simp only at h
  have ha:=he a
  generalize e a=sa at h ha
  cases sa with
  | ref id off =>
   simp only [c8e] at h
   split at h
   . rename_i S cells hi
     have ⟨h1,h2⟩:=j7 h
     simp only [b3N] at h2; subst h2
     simp only [b3R] at h1
     obtain ⟨⟨⟨e1,e2⟩,e3⟩,e4⟩:=h1
     cases hs:E.size T with
     | none=>simp_all
     | some mm =>
      rw [hs] at e1 e4
      exact b8q hm ha (he x) hi hs (b4T e1) e2 (b3Q e4) K
   . rename_i t nn cells hi
     have ⟨h1,h2⟩:=j7 h
     clear h
     simp only [b3N] at h2; subst h2
     simp only [b3R] at h1
     obtain ⟨⟨⟨⟨e0,e1⟩,e2⟩,e3⟩,e4⟩:=h1
     cases hs:E.size T with
     | none=>simp_all
     | some mm =>
      rw [hs] at e1 e4
      exact c48 hm ha (he x) hi (D3 e0) hs (b4T e1) e2 (b3Q e4) K
   . cases h
  | el id t i off=>exact b5h hm ha (he x) h K
  | _=>cases h
 | buildSlice T len ps =>
  obtain ⟨d',rfl,hn⟩:=hn
  have h:(match b46 E its nx e T len ps.toList with | some s=>some s | none=>d3a E its nx e T len ps.toList)=some s:=h
  cases h2:b46 E its nx e T len ps.toList with
  | some s2=>rw [h2] at h; cases h; exact c6f hm he h2 hn K
  | none=>rw [h2] at h; exact d4a hm he h hn K
 | makeSlice T x y=>obtain ⟨d',rfl,hn⟩:=hn; exact d0j hm (he x) (he y) h ho hn K
 | convert S D x=>obtain ⟨d',rfl,hn⟩:=hn; exact c3g hm (he x) h hn K
 | call c =>
  obtain ⟨d',rfl,hn⟩:=hn
  have h:(match b5n E its nx e c ty with | some s=>some s | none=>a7h E its nx e c ty)=some s:=h
  cases h2:b5n E its nx e c ty with
  | some s2=>rw [h2] at h; cases h; exact c66 hm he h2 ho hn K
  | none=>rw [h2] at h; exact b6b hm he h ho hn K
 | slice T x lo hi m =>
  obtain ⟨d',rfl,hn⟩:=hn
  simp only at h
  split at h
  . rename_i k hk
    unfold b2i at hk
    split at hk
    . cases hk
    . rename_i o
      simp only [b3Y,b3N] at hk
      obtain ⟨a,ha,rfl⟩:=hk
      exact b8t hm (he x) (b31 (he o) ha) h ho hn K
  . cases h
 | _=>cases h
end
end Go.Rx
end
section
namespace Go.Rx
open Go Go.Wk Go.Wl
section
variable {E:Env} {C:Ctx} {n:Nat} {ops:List Oper} {Q:Exit->Fr->World->Prop} {rest:List Oper} {f:Fr} {w w':World} {d:Nat}
variable {ty T T':TypeId} {pos:String} {after:Array Edge} {x y z:Operand} {a b:Int} {ρ ρ':r9} {Z Z':Nat->Prop} {its its' lkd:a7 E.N} {nx:Nat} {s:S1 E.N}
variable {fx:o7 E.N} {st:E.St}
structure Rel (E:Env) (C:Ctx) (fx:o7 E.N) (lkd:a7 E.N) (st:E.St) (ρ:r9) (Z:Nat->Prop) (f:Fr) (w:World):Prop where
 sl:∀ k s,lk st.slots k=some s->Rep E.N E.T ρ Z w (f k) s
 fx:∀ p∈fx,Rep E.N E.T ρ Z w (f p.1) p.2
 gs:∀ k j b s,lk st.gs k=some (j,b,s)->(f j=.bool b->Rep E.N E.T ρ Z w (f k) s)/\(f j≠.bool b->f k=undef)
 mem:Mem E C ρ Z w (st.items++lkd) st.nx
 tn:Tn C.ρ0 C.Z0 C.w1 ρ Z w
 g:E.G.is C.Z0 C.w1
theorem a0w.turn {G:a0w} (h:G.is Z w) (t:Tn ρ Z w ρ' Z' w'):G.is Z' w':=by
 obtain ⟨B,x,hB⟩:=t.ext
 exact G.a1L h x hB t.z
theorem Rel.a3U (h:Rel E C fx lkd st ρ Z f w):E.G.is Z w:=a0w.turn h.g h.tn
theorem c9o {v:Value} {s:E.SV} (hm:Mem E C ρ Z w its nx) (h:Rep E.N E.T ρ Z w v s):Rep E.N E.T ρ Z w v (nrm its s):=by
 cases s with
 | acc id =>
  simp only [nrm]
  split
  . rename_i t l hi
    obtain ⟨L,hL,hn,hr⟩:=hm.at hi
    cases h with
    | acc hL'=>rw [hL] at hL'; cases hL'; exact .sl hr
  . exact h
 | _=>exact h
theorem a6s {β:Type} {l:List (Nat×β)} {d:Nat} (h:lk l d=none):∀ p∈l,d≠p.1:=by
 induction l with
 | nil=>simp_all
 | cons q r ih =>
  unfold lk at h
  cases hb:Nat.beq q.1 d with
  | true=>simp_all
  | false =>
   rw [hb,b4X] at h
   intro p hp
   rcases b4D.1 hp with rfl | hp
   . intro e; simp_all
   grind
theorem Rel.slot (h:Rel E C fx lkd st ρ Z f w) (k:Nat):Rep E.N E.T ρ Z w (f k) (s5 fx st k):=by
 unfold s5
 split
 . rename_i v hv; exact h.sl k v hv
 . split
   . rename_i v hv; obtain ⟨i,hi,_⟩:=v6 hv; exact h.fx (k,v) (b4S hi)
   . exact .un
def a1c (f:Fr) (ch:List (Nat×Bool)):Prop:=∀ j w,c6c ch j w=true->f j=.bool w
theorem a1c.nil:a1c f []:=fun j w h=>by simp [c6c] at h
theorem Rel.ev (h:Rel E C fx lkd st ρ Z f w) {ch:List (Nat×Bool)} (hc:a1c f ch) (o:Operand):Rep E.N E.T ρ Z w (ev f o) (evS fx lkd st ch o):=by
 cases o with
 | tmp t =>
  show Rep E.N E.T ρ Z w (f t) _
  simp only [evS]
  split
  . rename_i j b v hv
    cases hg:c6c ch j b with
    | true=>exact c9o h.mem ((h.gs t j b v hv).1 (hc j b hg))
    | false=>exact .un
  . exact c9o h.mem (h.slot t)
 | const v=>exact a6t
 | global g=>exact .con rfl
 | func K=>exact .fn
theorem H4 {β:Type} {l:List (Nat×β)} {d k:Nat} {v:β}:lk ((d,v)::l) k=if d=k then some v else lk l k:=by
 show (bif Nat.beq d k then some v else lk l k)=_
 simp_all
theorem Y2 {d k:Nat} {v:Value} (h:d≠k):upd f d v k=f k:=by rw [M6,if_neg (b6D h)]
theorem a50 {d:Nat} {v:Value}:upd f d v d=v:=by rw [M6,if_pos rfl]
theorem c22 {gs:List (Nat×Nat×Bool×E.SV)} {d:Nat} (h:(gs.all fun p=>!Nat.beq p.2.1 d)=true) {k j:Nat} {b:Bool} {s:E.SV} (hk:lk gs k=some (j,b,s)):j≠d:=by
 obtain ⟨i,hi,_⟩:=v6 hk
 rw [b5A] at h
 have:=h _ (b4S hi)
 intro e; simp_all
theorem G6 {d:Nat} (h:free n fx st (some d)=true):Nat.blt d n=true/\lk fx d=none/\lk st.gs d=none/\(st.gs.all fun p=>!Nat.beq p.2.1 d)=true:=by
 simp only [free,b3R,b7P] at h
 grind
theorem Rel.put {d:Option Nat} {v:Value} {s:E.SV} {items:a7 E.N} {nx:Nat} (h:Rel E C fx lkd st ρ Z f w) (hf:free n fx st d=true) (t:Tn ρ Z w ρ' Z' w') (hm:Mem E C ρ' Z' w' (items++lkd) nx) (hv:Rep E.N E.T ρ' Z' w' v s) :
  Rel E C fx lkd (put ⟨st.slots,st.gs,items,nx⟩ d s) ρ' Z' (M0 f d v) w':=by
 cases d with
 | none=>exact ⟨fun k s hk=>t.rep (h.sl k s hk),fun p hp=>t.rep (h.fx p hp),fun k j b s hk=>⟨fun e=>t.rep ((h.gs k j b s hk).1 e),(h.gs k j b s hk).2⟩,hm,h.tn.trans t,h.g⟩
 | some d =>
  obtain ⟨_,h2,h3,h4⟩:=G6 hf
  refine ⟨fun k s' hk=>?_,fun p hp=>?_,fun k j b s' hk=>?_,hm,h.tn.trans t,h.g⟩
  . show Rep E.N E.T ρ' Z' w' (upd f d v k) s'
    have hk:lk ((d,s)::st.slots) k=some s':=hk
    rw [H4] at hk
    by_cases e:d=k
    . rw [if_pos e] at hk; cases hk; subst e; rw [a50]; exact hv
    . rw [if_neg e] at hk; rw [Y2 e]; exact t.rep (h.sl k s' hk)
  . show Rep E.N E.T ρ' Z' w' (upd f d v p.1) p.2
    rw [Y2 (a6s h2 p hp)]; exact t.rep (h.fx p hp)
  . have hk:lk st.gs k=some (j,b,s'):=hk
    have e:d≠k:=fun e=>by simp_all
    have e2:d≠j:=b6D (c22 h4 hk)
    show (upd f d v j=_->Rep E.N E.T ρ' Z' w' (upd f d v k) s')/\(upd f d v j≠_->upd f d v k=_)
    rw [Y2 e,Y2 e2]
    exact ⟨fun e=>t.rep ((h.gs k j b s' hk).1 e),(h.gs k j b s' hk).2⟩
theorem Rel.b2N {d:Option Nat} {v:Value} {s:E.SV} (h:Rel E C fx lkd st ρ Z f w) (hf:free n fx st d=true) (hv:Rep E.N E.T ρ Z w v s):Rel E C fx lkd (Rx.put st d s) ρ Z (M0 f d v) w:=by
 have:=h.put hf (Tn.refl ρ Z w) h.mem hv
 exact this
theorem R2 {ps:List Prop} {r:Prop} (h:cj ps r):n6 ps/\r:=by
 induction ps with
 | nil=>exact ⟨trivial,h⟩
 | cons p ps ih=>exact ⟨⟨h.1,(ih h.2).1⟩,(ih h.2).2⟩
theorem T0 {ps:List Prop} {r:Prop} (h:im ps r) (hp:n6 ps):r:=by
 induction ps with
 | nil=>exact h
 | cons p ps ih=>exact ih (h hp.1) hp.2
theorem c4z {m:Bool} {ch:List (Nat×Bool)} {c:Operand} {s:E.SV} (h:Rel E C fx lkd st ρ Z f w) (hc:a1c f ch) {ya yb:Operand} (hp:d0o fx lkd st ch c ya yb=some s) (hn:Nat.blt d n=true) (K:∀ v,Rep E.N E.T ρ Z w v s->WL E.P m n ops Q rest (upd f d v) w) :
  WL E.P m n ops Q (⟨some d,.pick c ya yb,ty,pos,after,none⟩::rest) f w:=by
 cases c with
 | tmp j =>
  simp only [d0o] at hp
  have he:=h.ev hc (.tmp j)
  split at hp
  . rename_i p dp hpp
    have hv:=he.a2K hpp
    refine b7i hv hn ?_
    split at hp
    . rename_i t
      split at hp
      . rename_i j' b v hg
        have ⟨h1,h2⟩:=j7 hp
        simp only [b3R] at h1
        obtain ⟨e1,e2⟩:=h1
        have e1:=b3Q e1
        subst e1; subst e2
        split at h2
        . rename_i q dq hq
          simp only [b3N] at h2; subst h2
          have hgs:=h.gs t j true v hg
          have hv':f j=.bool (@decide p dp):=hv
          have e:(if @decide p dp=true then Wk.ev f (.tmp t) else Wk.ev f (.const (.bool false)))=.bool (decide (p/\q)):=by
           by_cases hpp:p
           . rw [if_pos (by simp [hpp])]
             have hr:=hgs.1 (by simp_all)
             show f t=_
             rw [hr.a2K hq]; simp [hpp]
           . rw [if_neg (by simp [hpp])]
             show Value.bool false=_
             simp [hpp]
          rw [e]; exact K _ .bl
        . cases h2
      . cases hp
    . rename_i t
      split at hp
      . rename_i j' b v hg
        have ⟨h1,h2⟩:=j7 hp
        simp only [b3R,b7W] at h1
        obtain ⟨e1,e2⟩:=h1
        have e1:=b3Q e1
        subst e1; subst e2
        split at h2
        . rename_i q dq hq
          simp only [b3N] at h2; subst h2
          have hgs:=h.gs t j false v hg
          have hv':f j=.bool (@decide p dp):=hv
          have e:(if @decide p dp=true then Wk.ev f (.const (.bool true)) else Wk.ev f (.tmp t))=.bool (decide (p ∨ q)):=by
           by_cases hpp:p
           . rw [if_pos (by simp [hpp])]
             show Value.bool true=_
             simp [hpp]
           . rw [if_neg (by simp [hpp])]
             have hr:=hgs.1 (by simp_all)
             show f t=_
             rw [hr.a2K hq]; simp [hpp]
          rw [e]; exact K _ .bl
        . cases h2
      . cases hp
    . cases hp
  . cases hp
 | _=>cases hp
theorem a9b {m:Bool} {ch:List (Nat×Bool)} {op:Op} {q:Q1 E.N} (h:Rel E C fx lkd st ρ Z f w) (hc:a1c f ch) (hs:stepG fx lkd st ch op=some q) (ho:n6 q.ob) (hn:Nat.blt d n=true) (K:KQ E m n ops Q rest f w d ρ Z q) :
  WL E.P m n ops Q (⟨some d,op,ty,pos,after,none⟩::rest) f w:=by
 unfold stepG at hs
 split at hs
 . rename_i v hp
   cases op with
   | pick c a b=>exact c4z h hc hp hn (fun v hv=>K.q0 hs hv)
   | _=>cases hp
 . exact d1c h.mem (fun o=>h.ev hc o) hs ho hn K
theorem Mem.join {new:a7 E.N} {nx':Nat} (hm:Mem E C ρ Z w its nx) (hρ:∀ i L,ρ i=some L->ρ' i=some L) (hfr:∀ i,nx'<=i->ρ' i=none) (hz:∀ b,Z b->Z' b) (hz':∀ b,Z' b->Z b ∨ w.heap.size<=b) (hs:Sep [] w Z' w' (s6 E.N E.T ρ' [] new)):Mem E C ρ' Z' w' (new++its) nx'/\Tn ρ Z w ρ' Z' w':=by
 have x:=hs.ext
 have hold:∀ {k:Nat} {p:Nat×Item E.N},its[k]?=some p->Go.Rx.holds E.N E.T ρ' p.1 Z' w' p.2/\(∀ b∈u5 E.N ρ' p.1 p.2,b∈u5 E.N ρ p.1 p.2):=fun {k p} hp=>by
  have h1:Go.Rx.holds E.N E.T ρ p.1 Z' w' p.2:=z7 (B0:=C.B0) Z Z' [] w w' (hm.holds hp) x (fun _ h=>by cases h) hz
  have h2:=P0 hρ h1
  simp_all
 have oldF:∀ {k:Nat} {p:Nat×Item E.N},its[k]?=some p->∀ b∈u5 E.N ρ p.1 p.2,b<w.heap.size/\¬ Z b/\(b∈C.B0 ∨ C.w0.heap.size<=b):=fun {k p} hp b hb=>by
  have ok:=hm.sep.ok k _ (o5 hp)
  exact ⟨ok.lt b hb,ok.a1X b hb,ok.org b hb⟩
 have newF:∀ {k:Nat} {p:Nat×Item E.N},new[k]?=some p->Go.Rx.holds E.N E.T ρ' p.1 Z' w' p.2/\∀ b∈u5 E.N ρ' p.1 p.2,b<w'.heap.size/\¬ Z' b/\w.heap.size<=b:=fun {k p} hp=>by
  have ok:=hs.ok k _ (o5 hp)
  exact ⟨ok.holds,fun b hb=>⟨ok.lt b hb,ok.a1X b hb,by
   rcases ok.org b hb with h | h
   . cases h
   . exact h⟩⟩
 have w0le:=hm.sep.ext.size
 refine ⟨⟨⟨hm.sep.ext.trans x (fun b hb=>.inl hb) (fun b hb=>by cases hb),hs.zlt,fun k t hk=>?_,fun j k s t hj hk hne b hb hb'=>?_⟩,hfr,fun i L e=>hρ _ _ (hm.ge i L e),fun b h=>hz b (hm.zge b h),fun b h=>?_⟩,⟨hρ,fun b h _=>hz b h,[],x,fun _ h=>by cases h⟩⟩
 . obtain ⟨p,hp,rfl⟩:=B6 hk
   by_cases hlt:k<new.length
   . rw [b3Z hlt] at hp
     obtain ⟨h1,h2⟩:=newF hp
     exact ⟨h1,z7,fun b hb=>(h2 b hb).1,fun b hb=>(h2 b hb).2.1,fun b hb=>.inr (by have:=(h2 b hb).2.2; omega),fun b hb=>hb⟩
   . rw [b4A (by omega)] at hp
     obtain ⟨h1,h2⟩:=hold hp
     exact ⟨h1,z7,fun b hb=>by have:=(oldF hp b (h2 b hb)).1; have:=x.size; omega,fun b hb hZ=>by
      have o:=oldF hp b (h2 b hb)
      grind,fun b hb=>(oldF hp b (h2 b hb)).2.2,fun b hb=>hb⟩
 . obtain ⟨p,hp,rfl⟩:=B6 hj
   obtain ⟨q,hq,rfl⟩:=B6 hk
   have hb:b∈u5 E.N ρ' p.1 p.2:=hb
   have hb':b∈u5 E.N ρ' q.1 q.2:=hb'
   by_cases h1:j<new.length
   . rw [b3Z h1] at hp
     by_cases h2:k<new.length
     . rw [b3Z h2] at hq
       exact hs.apart j k _ _ (o5 hp) (o5 hq) hne b hb hb'
     grind
   . rw [b4A (by omega)] at hp
     by_cases h2:k<new.length
     . grind
     . rw [b4A (by omega)] at hq
       exact hm.sep.apart _ _ _ _ (o5 hp) (o5 hq) (by omega) b ((hold hp).2 b hb) ((hold hq).2 b hb')
 . rcases hz' b h with h | h
   . exact hm.zle b h
   omega
theorem b38 {e:Operand->E.SV} (he:∀ o,Rep E.N E.T ρ Z w (Wk.ev f o) (e o)):∀ (l:List Operand),Rep E.N E.T ρ Z w (.tuple (l.map (Wk.ev f)).toArray) (.tup (l.map e))
 | []=>.a1O
 | o::l=>.a1F (he o) (b38 he l)
theorem d9i {cs c2:List Value} {ss s2:List E.SV} (h:Rep E.N E.T ρ Z w (.tuple cs.toArray) (.tup ss)) (h2:j8 E.N E.T ρ Z w c2 s2):Rep E.N E.T ρ Z w (.tuple (cs++c2).toArray) (.tup (ss++s2)):=by
 induction ss generalizing cs with
 | nil =>
  have:cs=[]:=by
   generalize e:Value.tuple cs.toArray=u at h
   cases h with
   | a1O=>simpa using e
  subst this
  show Rep E.N E.T ρ Z w (.tuple c2.toArray) (.tup s2)
  clear h
  induction s2 generalizing c2 with
  | nil=>have:=j8.a0Q h2; subst this; exact .a1O
  | cons s r ih=>obtain ⟨v,rr,rfl,h1,_,h3⟩:=j8.cons_inv h2; exact .a1F h1 (ih h3)
 | cons s ss ih=>obtain ⟨v,r,rfl,h1,h3⟩:=Rep.a0H h; exact .a1F h1 (ih h3)
theorem a2n {e:Operand->E.SV} (he:∀ o,Rep E.N E.T ρ Z w (Wk.ev f o) (e o)) {c:Call} {K:Nat} {args:List E.SV} (h:callee e c=some (K,args)):∃ z xs Ts cap,c=⟨.value z,xs,Ts⟩/\Wk.ev f z=.func (.func K) #[] cap/\Rep E.N E.T ρ Z w (.tuple (xs.toList.map (Wk.ev f)++cap.toList).toArray) (.tup args):=by
 obtain ⟨cal,xs,Ts⟩:=c
 unfold callee at h
 cases cal with
 | value z =>
  simp only at h
  have hz:=he z
  generalize hv:Wk.ev f z=vz at hz
  split at h
  . rename_i K' hk
    simp only [b3N,b4P] at h
    obtain ⟨rfl,rfl⟩:=h
    rw [hk] at hz
    cases hz with
    | fn=>exact ⟨z,xs,Ts,#[],rfl,hv,by simpa using b38 he xs.toList⟩
  . rename_i K' cs hk
    simp only [b3N,b4P] at h
    obtain ⟨rfl,rfl⟩:=h
    rw [hk] at hz
    cases hz with
    | clo hr=>exact ⟨z,xs,Ts,_,rfl,hv,d9i (b38 he xs.toList) hr⟩
  . cases h
 | _=>cases h
theorem T7 {z:Operand} {xs:Array Operand} {Ts:Array TypeId} {cap:Array Value} {K0:Nat} {d:Option Nat} {R:Value->World->Prop} (hv:Wk.ev f z=.func (.func K0) #[] cap) (hK:∀ ars w,(callFunc K0 ars).run E.P w=.ok (.enter K0 ars) w)
  (hc:A6 E.P K0 (xs.toList.map (Wk.ev f)++cap.toList) w R) (hn:∀ d',d=some d'->Nat.blt d' n=true) (K:∀ v w',R v w'->WL E.P false n ops Q rest (M0 f d v) w'):WL E.P false n ops Q (⟨d,.call ⟨.value z,xs,Ts⟩,ty,pos,after,none⟩::rest) f w:=by
 have key:∀ w1,Sim w w1->(execOp (Wk.ev f) ⟨d,.call ⟨.value z,xs,Ts⟩,ty,pos,after,none⟩).run E.P w1=.ok (.enter K0 (xs.toList.map (Wk.ev f)++cap.toList).toArray) w1:=fun w1 _=>by
  have:xs.map (Wk.ev f)++cap=(xs.toList.map (Wk.ev f)++cap.toList).toArray:=by apply b7L; simp
  simp [execOp,resolve,Deferred.ofValue,invoke,hv,go_sem,hK,<- this]
 cases d with
 | none=>exact c3z rfl rfl key hc K
 | some d=>exact b4s rfl rfl (hn d rfl) key hc K
theorem b8z {e:Operand->E.SV} (he:∀ o,Rep E.N E.T ρ Z w (Wk.ev f o) (e o)) {c:Call} {id:Nat} {args:List E.SV} (h:b3h e c=some (id,args)):∃ z xs Ts L,c=⟨.value z,xs,Ts⟩/\Wk.ev f z=.func (.yield L.b) #[] #[]/\ρ id=some L/\Rep E.N E.T ρ Z w (.tuple (xs.toList.map (Wk.ev f)).toArray) (.tup args):=by
 obtain ⟨cal,xs,Ts⟩:=c
 unfold b3h at h
 cases cal with
 | value z =>
  simp only at h
  have hz:=he z
  generalize hv:Wk.ev f z=vz at hz
  split at h
  . rename_i id' hk
    simp only [b3N,b4P] at h
    obtain ⟨rfl,rfl⟩:=h
    rw [hk] at hz
    cases hz with
    | yld hL=>exact ⟨z,xs,Ts,_,rfl,hv,hL,b38 he xs.toList⟩
  . cases h
 | _=>cases h
theorem d1v {z:Operand} {xs:Array Operand} {Ts:Array TypeId} {b:Nat} {d:Nat} {R:Value->World->Prop} (hv:Wk.ev f z=.func (.yield b) #[] #[])
  (hc:a5v E.P b (xs.toList.map (Wk.ev f)) w R) (hn:Nat.blt d n=true) (K:∀ v w',R v w'->WL E.P false n ops Q rest (upd f d v) w'):WL E.P false n ops Q (⟨some d,.call ⟨.value z,xs,Ts⟩,ty,pos,after,none⟩::rest) f w:=by
 refine c9u rfl rfl hn (fun w1=>?_) hc K
 have:xs.map (Wk.ev f)=(xs.toList.map (Wk.ev f)).toArray:=by apply b7L; simp
 simp [execOp,resolve,Deferred.ofValue,invoke,hv,go_sem,<- this]
theorem c3n {v:Value} {s:E.SV} (hp:H9 s=true) (h:Rep E.N E.T ρ Z w v s) (ρ':r9):Rep E.N E.T ρ' Z w v s:=by
 have one:∀ {v:Value} {s:E.SV},(match s with | .int _ _=>true | .byte _=>true | .tt=>true | .ff=>true | .bl _ _=>true | .str _=>true | .con _=>true | .a1K=>true | .sl _ _=>true | .err _=>true | .fn _=>true | _=>false)=true->Rep E.N E.T ρ Z w v s->Rep E.N E.T ρ' Z w v s:=fun {v s} hp h=>by
  cases h with
  | int h=>exact .int h
  | byte=>exact .byte
  | tt=>exact .tt
  | ff=>exact .ff
  | bl=>exact .bl
  | str h=>exact .str h
  | con h=>exact .con h
  | a1K=>exact .a1K
  | sl h=>exact .sl h
  | err h=>exact .err h
  | fn=>exact .fn
  | _=>cases hp
 cases s with
 | agg vs =>
  have ⟨cs,e,h2⟩:=Rep.a1J h
  subst e
  clear h
  rename j8 E.N E.T ρ Z w cs vs=>h
  simp only [H9] at hp
  show j8 E.N E.T ρ' Z w cs vs
  induction vs generalizing cs with
  | nil=>have:=j8.a0Q h; subst this; exact j8.nil
  | cons s r ih =>
   obtain ⟨u,rr,rfl,h1,hpl,h2⟩:=j8.cons_inv h
   simp only [b7A,b3R] at hp
   refine Rep.a1V (one ?_ h1) hpl (ih hp.2 rr h2)
   grind
 | un=>cases hp
 | undef=>cases hp
 | ref=>cases hp
 | acc=>cases hp
 | el=>cases hp
 | fel t l i off=>cases h with | fel h a b=>exact .fel h a b
 | sub=>cases hp
 | tup=>cases hp
 | ifc=>cases hp
 | clo=>cases hp
 | yld=>cases hp
 | _=>exact one rfl h
theorem K5 {cs:List Value} {ss:List E.SV} (hp:ss.all H9=true) (h:Rep E.N E.T ρ Z w (.tuple cs.toArray) (.tup ss)) (ρ':r9):Rep E.N E.T ρ' Z w (.tuple cs.toArray) (.tup ss):=by
 induction ss generalizing cs with
 | nil =>
  generalize e:Value.tuple cs.toArray=u at h ⊢
  cases h with | a1O=>exact .a1O
 | cons s ss ih =>
  obtain ⟨v,r,rfl,h1,h2⟩:=Rep.a0H h
  simp only [b7A,b3R] at hp
  exact .a1F (c3n hp.1 h1 ρ') (ih hp.2 h2)
def seen (Z:Nat->Prop) (w:World) (F:List Nat):Nat->Prop:=fun b=>b<w.heap.size/\b ∉ F
theorem a6n {F:List Nat} {cs:List Value} {ss:List E.SV} (hm:Mem E C ρ Z w its nx) (hF:∀ b∈F,¬ Z b) (hA:∀ id t l,lk its id=some (.ac t l)->∀ b∈u5 E.N ρ id (.ac t l),b ∉ F) (h:Rep E.N E.T ρ Z w (.tuple cs.toArray) (.tup ss)):Rep E.N E.T ρ (seen Z w F) w (.tuple cs.toArray) (.tup (ss.map (a0v its))):=by
 have hZ:∀ b,Z b->b<w.heap.size->seen Z w F b:=fun b hz hb=>⟨hb,fun hm=>hF b hm hz⟩
 have up:∀ {v:Value} {s:E.SV},Rep E.N E.T ρ Z w v s->Rep E.N E.T ρ (seen Z w F) w v s:=fun h=>h.a1L (Ext.refl [] w) (fun _ h=>by cases h) hZ (fun _ _ h=>h)
 have one:∀ {v:Value} {s:E.SV},Rep E.N E.T ρ Z w v s->Rep E.N E.T ρ (seen Z w F) w v (b0f its s):=fun {v s} h1=>by
  cases s with
  | acc id =>
   simp only [b0f]
   split
   . rename_i t l hi
     obtain ⟨L,hL,hn,hl,hac⟩:=hm.at hi
     cases h1 with
     | acc hL' =>
      rw [hL] at hL'; cases hL'
      have hrd:=Ac.rd hac hl
      refine .sl (Rd.a2T _ hrd fun b hb hlt=>?_)
      rcases hb with h | h
      . simp_all
      . exact ⟨hlt,hA id t l hi b (by rw [u6 hL]; exact h)⟩
   simp_all
  | sub id t lo n =>
   simp only [b0f]
   split
   . rename_i t' l hi
     cases hb:Nat.beq t t' with
     | false=>simp_all
     | true =>
      rw [b4G]
      have e:=b3Q hb
      subst e
      obtain ⟨L,hL,hn,hl,hac⟩:=hm.at hi
      cases h1 with
      | a2W hL' l0 n0 l1 hc hA' =>
       rw [hL] at hL'; cases hL'
       have hrd:=Ac.rd hac hl
       rw [hn] at hrd
       have hs:=a9p (a:=lo.toNat) (b:=lo.toNat+n.toNat) hrd (by omega) (by omega)
       rw [b7B] at hs
       rw [hc,hA']
       refine .sl (Rd.a2T _ hs fun b hb hlt=>?_)
       rcases hb with h | h
       . simp_all
       . exact ⟨hlt,hA id t l hi b (by rw [u6 hL]; exact h)⟩
   simp_all
  | _=>exact up h1
 have many:∀ {vs:List E.SV} {us:List Value},j8 E.N E.T ρ Z w us vs->j8 E.N E.T ρ (seen Z w F) w us (vs.map (b0f its)):=fun {vs}=>by
  induction vs with
  | nil=>intro us h; obtain rfl:=j8.a0Q h; exact j8.nil
  | cons s vs ih=>intro us h; obtain ⟨v,r,rfl,h1,hp,h2⟩:=j8.cons_inv h; exact j8.cons (one h1) hp (ih h2)
 induction ss generalizing cs with
 | nil =>
  simp_all
 | cons s ss ih =>
  obtain ⟨v,r,rfl,h1,h2⟩:=Rep.a0H h
  refine .a1F ?_ (ih h2)
  cases s with
  | agg vs =>
   obtain ⟨us,rfl,hr⟩:=Rep.a1J h1
   exact many hr
  | _=>exact one h1
end
end Go.Rx
end
section
namespace Go.Rx
open Go Go.Wk Go.Wl
theorem Sep.b3L {B0:List Nat} {w0 w:World} {Z:Nat->Prop} {l l':List It} (hs:Sep B0 w0 Z w l) (φ:Nat->Option Nat) (inj:∀ i j a,i<l'.length->j<l'.length->φ i=some a->φ j=some a->i=j)
  (h:∀ (i:Nat) (t':It),l'[i]?=some t'->(∃ k t,φ i=some k/\l[k]?=some t/\b92 B0 Z w t t') ∨ (t'.P Z w/\t'.a2B/\t'.F=[]/\t'.O=B0)):Sep B0 w0 Z w l':=by
 refine ⟨hs.ext,hs.zlt,fun i t' hi=>?_,fun i j s t hi hj hne b hb hb'=>?_⟩
 . rcases h i t' hi with ⟨k,t,_,ht,lk⟩ | ⟨h1,h2,h3,h4⟩
   . have ok:=hs.ok _ t ht
     exact ⟨lk.P,lk.a1L,fun b hb=>ok.lt b (lk.F b hb),fun b hb=>ok.a1X b (lk.F b hb),fun b hb=>by
      rw [lk.O]
      rcases ok.org b (lk.F b hb) with h | h
      . exact .inl (ok.a3L b h)
      omega,fun b hb=>by rw [lk.O] at hb; exact hb⟩
   . exact ⟨h1,h2,fun b hb=>(by simp_all),fun b hb=>(by simp_all),fun b hb=>(by simp_all),fun b hb=>by simp_all⟩
 . rcases h i s hi with ⟨k,s1,e1,hs1,lk1⟩ | ⟨_,_,h3,_⟩
   . rcases h j t hj with ⟨k2,t1,e2,ht1,lk2⟩ | ⟨_,_,h3,_⟩
     . exact hs.apart k k2 s1 t1 hs1 ht1 (fun e=>hne (inj i j k (B8 hi) (B8 hj) e1 (by simp_all))) b (lk1.F b hb) (lk2.F b hb')
     simp_all
   simp_all
def c3y {β:Type}:List (Nat×β)->Nat->Nat
 | [],_=>0
 | p::r,j=>bif Nat.beq p.1 j then 0 else c3y r j+1
theorem a7d {β:Type} {l:List (Nat×β)} {j:Nat} {x:β} (h:lk l j=some x):l[c3y l j]?=some (j,x):=by
 induction l with
 | nil=>cases h
 | cons p r ih =>
  unfold lk at h; unfold c3y
  cases hb:Nat.beq p.1 j with
  | true=>rw [hb,b4G] at h; cases h; have:=b3Q hb; grind
  | false=>simp_all
section
variable {E:Env} {C:Ctx} {f:Fr} {w:World}
variable {ρb ρ ρ2 ρ3:r9} {Z Zb:Nat->Prop} {wb:World} {its lkd:a7 E.N} {nx:Nat}
theorem b4z {id:Nat} {i:Item E.N} (h:holds E.N E.T ρ id Z w i) (hb:holds E.N E.T ρb id Zb wb i) (hρ:∀ i L,ρb i=some L->ρ i=some L):holds E.N E.T ρb id Z w i/\u5 E.N ρb id i=u5 E.N ρ id i:=by
 cases i with
 | own Ty cells =>
  obtain ⟨L,cs,hL,hbs,ho,hr⟩:=h
  obtain ⟨L',cs',hL',_,_,hr'⟩:=hb
  have:=hρ _ _ hL'; rw [hL] at this; cases this
  exact ⟨⟨L,cs,hL',hbs,ho,Rep.lower hr hr' hρ⟩,by rw [A8 hL,A8 hL']⟩
 | ac t l =>
  obtain ⟨L,hL,r⟩:=h
  obtain ⟨L',hL',_⟩:=hb
  have:=hρ _ _ hL'; rw [hL] at this; cases this
  exact ⟨⟨L,hL',r⟩,by rw [u6 hL,u6 hL']⟩
 | fz t l =>
  obtain ⟨L,hL,r⟩:=h
  obtain ⟨L',hL',_⟩:=hb
  have:=hρ _ _ hL'; rw [hL] at this; cases this
  exact ⟨⟨L,hL',r⟩,rfl⟩
 | ob k fid x =>
  obtain ⟨L,Lf,hL,hf,r⟩:=h
  obtain ⟨L',Lf',hL',hf',_⟩:=hb
  have:=hρ _ _ hL'; rw [hL] at this; cases this
  have:=hρ _ _ hf'; rw [hf] at this; cases this
  exact ⟨⟨L,Lf,hL',hf',r⟩,by rw [D6 hf,D6 hf']⟩
 | rw t n cells =>
  obtain ⟨L,F,hL,hn,hb',hA,hr,hrep⟩:=h
  obtain ⟨L',F',hL',_,_,_,_,hrep'⟩:=hb
  have:=hρ _ _ hL'; rw [hL] at this; cases this
  exact ⟨⟨L,F,hL',hn,hb',hA,hr,Rep.lower hrep hrep' hρ⟩,by rw [E7 hL,E7 hL']⟩
theorem Ac.takeN {α:Type} {r:Rd α} {Z:Nat->Prop} {w:World} {A:Option Addr} {nn cap k:Nat} {l:List α} {bs:List Nat} (h:Ac r Z w (.slice A nn cap) l bs) (hk:k<=nn):Ac r Z w (.slice A k cap) (l.take k) bs:=by
 have hl:l.length=nn:=Ac.n h
 rcases h with ⟨e,rfl,rfl⟩ | ⟨b,cap',C,T,hv,rfl,ho,hC,hle,hc⟩
 . simp only [b6M] at e
   obtain ⟨rfl,rfl,rfl⟩:=e
   have:k=0:=by omega
   subst this; exact .inl ⟨rfl,rfl,rfl⟩
 . simp only [b6M] at hv
   obtain ⟨rfl,_,rfl⟩:=hv
   refine .inr ⟨b,cap,C,T,by grind,rfl,ho,hC,by grind,fun i hi=>?_⟩
   have hi':i<l.length:=by rw [b3U] at hi; omega
   grind
def Tgt (E:Env) (B0:List Nat) (ρ:r9) (Z:Nat->Prop) (w:World) (its:a7 E.N) (ρ2:r9) (o:Option Nat) (p:Nat×Item E.N):Prop:=match o with
 | some sid=>∃ it,lk its sid=some it/\holds E.N E.T ρ2 p.1 Z w p.2/\∀ b∈u5 E.N ρ2 p.1 p.2,b∈u5 E.N ρ sid it
 | none=>holds E.N E.T ρ2 p.1 Z w p.2/\u5 E.N ρ2 p.1 p.2=[]
inductive Q8 (E:Env) (B0:List Nat) (ρ:r9) (Z:Nat->Prop) (w:World) (its:a7 E.N) (ρ2:r9):List (Option Nat)->a7 E.N->Prop
 | nil:Q8 E B0 ρ Z w its ρ2 [] []
 | cons {o:Option Nat} {p:Nat×Item E.N} {os:List (Option Nat)} {ps:a7 E.N}:Tgt E B0 ρ Z w its ρ2 o p->Q8 E B0 ρ Z w its ρ2 os ps->Q8 E B0 ρ Z w its ρ2 (o::os) (p::ps)
theorem Tgt.mono {B0:List Nat} {o:Option Nat} {p:Nat×Item E.N} (hρ:∀ i L,ρ2 i=some L->ρ3 i=some L) (h:Tgt E B0 ρ Z w its ρ2 o p):Tgt E B0 ρ Z w its ρ3 o p:=by
 cases o with
 | some sid=>obtain ⟨it,h1,h2,h3⟩:=h; have:=P0 hρ h2; exact ⟨it,h1,this.1,fun b hb=>h3 b (by simp_all)⟩
 | none=>obtain ⟨h1,h2⟩:=h; have:=P0 hρ h1; exact ⟨this.1,by simp_all⟩
theorem Q8.mono {B0:List Nat} {os:List (Option Nat)} {ps:a7 E.N} (hρ:∀ i L,ρ2 i=some L->ρ3 i=some L) (h:Q8 E B0 ρ Z w its ρ2 os ps):Q8 E B0 ρ Z w its ρ3 os ps:=by
 induction h with
 | nil=>exact .nil
 | cons h _ ih=>exact .cons (h.mono hρ) ih
theorem Q8.get {B0:List Nat} {os:List (Option Nat)} {ps:a7 E.N} (h:Q8 E B0 ρ Z w its ρ2 os ps):os.length=ps.length/\∀ (i:Nat) (p:Nat×Item E.N),ps[i]?=some p->∃ o,os[i]?=some o/\Tgt E B0 ρ Z w its ρ2 o p:=by
 induction h with
 | nil=>simp_all
 | cons h _ ih =>
  grind
theorem b8o {os:List (Option Nat)} (h:(os.filterMap id).Nodup):∀ (i j sid:Nat),os[i]?=some (some sid)->os[j]?=some (some sid)->i=j:=by
 induction os with
 | nil=>simp_all
 | cons o r ih =>
  grind
theorem Mem.a5X {os:List (Option Nat)} {new:a7 E.N} {n2:Nat} (hm:Mem E C ρ Z w (its++lkd) nx) (hl:∀ p∈lkd,Go.Rx.holds E.N E.T ρ2 p.1 Z w p.2/\u5 E.N ρ2 p.1 p.2=u5 E.N ρ p.1 p.2) (ht:Q8 E C.B0 ρ Z w its ρ2 os new) (hd:(os.filterMap id).Nodup) (hfr:∀ i,n2<=i->ρ2 i=none) (hge:∀ i L,C.ρ0 i=some L->ρ2 i=some L):Mem E C ρ2 Z w (new++lkd) n2:=by
 obtain ⟨hlen,hget⟩:=ht.get
 refine ⟨Sep.b3L hm.sep (fun i=>if i<new.length then (match os[i]? with | some (some sid)=>some (c3y its sid) | _=>none) else some (its.length+(i-new.length))) (fun i j a hi hj e1 e2=>?_) fun i t' hi=>?_,hfr,hge,hm.zge,hm.zle⟩
 . have small:∀ i,i<new.length->(match os[i]? with | some (some sid)=>some (c3y its sid) | _=>none)=some a->∃ sid,os[i]?=some (some sid)/\c3y its sid=a/\a<its.length/\∃ it,its[a]?=some (sid,it):=fun i hi e=>by
     split at e
     . rename_i sid hs
       cases e
       obtain ⟨o,ho,htg⟩:=hget i _ (b3T hi)
       rw [hs] at ho; cases ho
       obtain ⟨it,h1,_⟩:=htg
       exact ⟨sid,hs,rfl,B8 (a7d h1),it,a7d h1⟩
     . cases e
   by_cases h1:i<new.length
   . rw [if_pos h1] at e1
     obtain ⟨s1,a1,b1,c1,it1,d1⟩:=small i h1 e1
     by_cases h2:j<new.length
     . rw [if_pos h2] at e2
       obtain ⟨s2,a2,b2,c2,it2,d2⟩:=small j h2 e2
       rw [d1] at d2; cases d2
       exact b8o hd i j s1 a1 a2
     grind
   grind
 . obtain ⟨p,hp,rfl⟩:=B6 hi
   by_cases h1:i<new.length
   . rw [b3Z h1] at hp
     obtain ⟨o,ho,htg⟩:=hget i p hp
     simp only [if_pos h1,ho]
     cases o with
     | some sid =>
      obtain ⟨it,a1,a2,a3⟩:=htg
      exact .inl ⟨_,_,rfl,o5 (n8 (a7d a1)),a2,z7,a3,rfl⟩
     | none=>exact .inr ⟨htg.1,z7,htg.2,rfl⟩
   . rw [b4A (by omega)] at hp
     simp only [if_neg h1]
     have hq:(its++lkd)[its.length+(i-new.length)]?=some p:=by rw [b4A (by omega)]; simpa using hp
     obtain ⟨a1,a2⟩:=hl p (b4S hp)
     exact .inl ⟨_,_,rfl,o5 hq,a1,z7,fun b hb=>by have hb:b∈u5 E.N ρ2 p.1 p.2:=hb; rw [a2] at hb; exact hb,rfl⟩
theorem B7 {ρ1 ρ2 ρ3:r9} (h:∀ i L,ρ1 i=some L->ρ2 i=some L) (k:∀ i L,ρ2 i=some L->ρ3 i=some L):∀ i L,ρ1 i=some L->ρ3 i=some L:=fun i L e=>k _ _ (h _ _ e)
theorem Y6 {k:VK} {v:E.SV} {u:Value} {x:k.den E.N} {n2:Nat} {os:List (Option Nat)} {new:a7 E.N} (hm:Mem E C ρ Z w (its++lkd) nx) (hu:Rep E.N E.T ρ Z w u v) (h:rb1 E its k v=some x) (hfr:∀ i,n2<=i->ρ2 i=none) (ht:Q8 E C.B0 ρ Z w its ρ2 os new) :
  ∃ ρ3 os',Q8 E C.B0 ρ Z w its ρ3 os' ((fl1 E n2 k x).2.1++new)/\(∀ i,(fl1 E n2 k x).2.2<=i->ρ3 i=none)/\(∀ i L,ρ2 i=some L->ρ3 i=some L)/\Rep E.N E.T ρ3 Z w u (fl1 E n2 k x).1/\os'.filterMap id=O6 k v++os.filterMap id:=by
 have same:O6 k v=[]->(fl1 E n2 k x).2.1=[]->(fl1 E n2 k x).2.2=n2->Rep E.N E.T ρ2 Z w u (fl1 E n2 k x).1->∃ ρ3 os',Q8 E C.B0 ρ Z w its ρ3 os' ((fl1 E n2 k x).2.1++new)/\(∀ i,(fl1 E n2 k x).2.2<=i->ρ3 i=none)/\(∀ i L,ρ2 i=some L->ρ3 i=some L)/\Rep E.N E.T ρ3 Z w u (fl1 E n2 k x).1/\os'.filterMap id=O6 k v++os.filterMap id:=fun e0 e1 e2 hr=>⟨ρ2,os,by simp_all,by simp_all,fun _ _ h=>h,hr,by rw [e0]; rfl⟩
 cases k with
 | int k =>
  cases v with
  | int k' y =>
   simp only [rb1] at h
   split at h
   . rename_i e; subst e
     cases h
     cases hu with
     | int hi=>exact same rfl rfl rfl (.int hi)
   . cases h
  | _=>cases h
 | byte =>
  cases v with
  | byte y=>cases h; cases hu; exact same rfl rfl rfl .byte
  | _=>cases h
 | bool =>
  have hb:∀ y:Bool,Value.bool y=.bool (@decide (y=true) inferInstance):=fun y=>by simp_all
  cases v with
  | tt=>cases h; cases hu; refine same rfl rfl rfl ?_; rw [hb true]; exact .bl
  | ff=>cases h; cases hu; refine same rfl rfl rfl ?_; rw [hb false]; exact .bl
  | bl p d =>
   cases h
   have he:u=.bool (@decide p d):=by cases hu; rfl
   refine same rfl rfl rfl ?_
   rw [he,hb (@decide p d)]; exact .bl
  | _=>cases h
 | str =>
  cases v with
  | str y=>cases h; cases hu with | str hl=>exact same rfl rfl rfl (.str hl)
  | _=>cases h
 | err =>
  cases v with
  | err y=>cases h; cases hu with | err he=>exact same rfl rfl rfl (.err he)
  | _=>cases h
 | sl t =>
  simp only [rb1] at h
  have hu':Rep E.N E.T ρ Z w u (nrm its v):=by
   cases v with
   | acc id =>
    simp only [nrm]
    split
    . rename_i t l hi
      obtain ⟨j,hj,_⟩:=v6 hi
      obtain ⟨L,hL,hn,hr⟩:=hm.holds (n8 hj)
      cases hu with
      | acc hL'=>have hL:ρ id=some L:=hL; rw [hL] at hL'; cases hL'; exact .sl hr
    . exact hu
   | _=>exact hu
  exact same (by unfold O6; rfl) rfl rfl (.sl (c54 hu' h))
 | a0U =>
  cases v with
  | con u' =>
   simp only [rb1] at h
   split at h
   . split at h
     . cases hu; exact same rfl rfl rfl (.con rfl)
     . cases h
   . cases h
  | _=>cases h
 | val t =>
  cases v with
  | agg vs =>
   simp only [rb1] at h
   split at h
   . rename_i y hy
     obtain ⟨cs,rfl,hr⟩:=Rep.a1J hu
     have hrd:=y.bk_ok (s:=.agg vs) hr h
     have hsv:=y.sv_ok (ρ:=ρ2) hrd
     refine same rfl rfl rfl ?_
     simp only [fl1,hy]
     split
     . rename_i ls hls; rw [hls] at hsv; exact hsv
     . exact .un
   . cases h
  | _=>cases h
 | acc t =>
  have hn:=hfr n2 (b4H _)
  cases v with
  | a1K =>
   cases h
   cases hu
   refine ⟨C1 ρ2 n2 ⟨0,none,0,0,[]⟩,none::os,.cons ⟨⟨_,k7,rfl,by simp,Ac.nil⟩,by rw [u6 k7]⟩ (ht.mono (z6 hn)),fun i hi=>?_,z6 hn,.acc k7,rfl⟩
   have hi:n2+1<=i:=hi
   unfold C1; grind
  | acc id =>
   simp only [rb1] at h
   split at h
   . rename_i t' l hi
     split at h
     . rename_i e; subst e
       cases h
       obtain ⟨j,hj,_⟩:=v6 hi
       obtain ⟨L,hL,r⟩:=hm.holds (n8 hj)
       have hL:ρ id=some L:=hL
       cases hu with
       | acc hL' =>
        rw [hL] at hL'; cases hL'
        refine ⟨C1 ρ2 n2 L,some id::os,.cons ⟨_,hi,⟨L,k7,r⟩,fun b hb=>by rw [u6 k7] at hb; rw [u6 hL]; exact hb⟩ (ht.mono (z6 hn)),fun i hi=>?_,z6 hn,.acc k7,rfl⟩
        have hi:n2+1<=i:=hi
        unfold C1; grind
     . cases h
   . cases h
  | sub id t2 lo nn =>
   simp only [rb1] at h
   split at h
   . split at h
     . rename_i t' l hi
       split at h
       . rename_i e; subst e
         have ⟨hb,h2⟩:=j7 h
         clear h
         simp only [b3R] at hb
         obtain ⟨e2,hel⟩:=hb
         have e2:=b3Q e2
         subst e2
         cases h2
         obtain ⟨j,hj,_⟩:=v6 hi
         obtain ⟨L,hL,hn1,hlen,hac⟩:=hm.holds (n8 hj)
         have hL:ρ id=some L:=hL
         cases hu with
         | a2W hL' l0 n0 l1 hc hA =>
          rw [hL] at hL'; cases hL'
          have hnl:nn.toNat<=l.length:=by have l1:(0:Int)+nn<=L.n:=l1; omega
          have hact:=Ac.takeN (k:=nn.toNat) hac (by omega)
          have e0:(Int.ofNat 0).toNat=0:=rfl
          rw [e0,Nat.zero_mul] at hA
          rw [e0,c0A] at hc
          have hA2:_=L.A:=hA.trans (by
           split
           . rfl
           . cases hLA:L.A with
             | none=>rfl
             | some a=>show some (a.add 0)=some a; obtain ⟨ab,ao,asp⟩:=a; rfl)
          rw [hc,hA2]
          have hl2:(V6 rfl l:List (E.N.U t2)).take nn.toNat=l.take nn.toNat:=rfl
          refine ⟨C1 ρ2 n2 ⟨L.b,L.A,nn.toNat,L.cap,L.bs⟩,some id::os,.cons ⟨_,hi,⟨_,k7,by simp_all,by grind,hact⟩,fun b hb=>by rw [u6 k7] at hb; rw [u6 hL]; exact hb⟩ (ht.mono (z6 hn)),fun i hi=>?_,z6 hn,.acc k7,rfl⟩
          have hi:n2+1<=i:=hi
          unfold C1; grind
       . cases h
     . cases h
   . cases h
  | _=>cases h
end
end Go.Rx
end
section
namespace Go.Rx
open Go Go.Wk Go.Wl
section
variable {E:Env} {C:Ctx} {f:Fr} {w:World}
variable {ρb ρ ρ2 ρ3:r9} {Z Zb:Nat->Prop} {wb:World} {its lkd:a7 E.N} {nx:Nat} {fx fx':o7 E.N} {st st':E.St}
theorem a5n (ks:List VK) (vs:List E.SV):((ks.zip vs).filterMap d3s)=(ks.zip vs).flatMap fun p=>O6 p.1 p.2:=by
 induction ks generalizing vs with
 | nil=>rfl
 | cons k ks ih =>
  cases vs with
  | nil=>rfl
  | cons v vs =>
   rw [b8O,b9V,<- ih vs]
   cases k with
   | acc t=>cases v <;> rfl
   | _=>cases v <;> rfl
theorem a10 {α:Type} (hm:Mem E C ρ Z w (its++lkd) nx):∀ (ks:List VK) (vs:List E.SV) (cs:List Value) (g:I1 E.N α ks) (a:α) (n2:Nat) (new:a7 E.N) (acc:List E.SV) (ac:List Value) (ρ2:r9) (os:List (Option Nat)),
  j8 E.N E.T ρ Z w cs vs->G9 E its ks vs g=some a->(∀ i,n2<=i->ρ2 i=none)->Q8 E C.B0 ρ Z w its ρ2 os new->j8 E.N E.T ρ2 Z w ac acc ->
  ∃ ρ3 os' n3 new' cells',Q8 E C.B0 ρ Z w its ρ3 os' new'/\(∀ i,n3<=i->ρ3 i=none)/\(∀ i L,ρ2 i=some L->ρ3 i=some L)/\j8 E.N E.T ρ3 Z w (ac++cs) cells'/\(os'.filterMap id).Perm (((ks.zip vs).flatMap fun p=>O6 p.1 p.2)++os.filterMap id)/\∀ K,Z7 E ks n2 new acc g K->K a n3 new' cells'
 | [],vs,cs,g,a,n2,new,acc,ac,ρ2,os,hr,h,hfr,ht,hac=>by
  cases vs with
  | nil =>
   cases h
   obtain rfl:=j8.a0Q hr
   exact ⟨ρ2,os,n2,new,acc,ht,hfr,fun _ _ h=>h,by simp_all,b8Q _,fun K h=>h⟩
  | cons v vs=>cases h
 | k::ks,vs,cs,g,a,n2,new,acc,ac,ρ2,os,hr,h,hfr,ht,hac=>by
  cases vs with
  | nil=>cases h
  | cons v vs =>
   obtain ⟨u,r,rfl,hu,hp,hr⟩:=j8.cons_inv hr
   simp only [G9] at h
   split at h
   . rename_i x hx
     obtain ⟨ρ3,os1,t1,f1,s1,r1,o1⟩:=Y6 hm hu hx hfr ht
     have hac1:j8 E.N E.T ρ3 Z w (ac++[u]) (acc++[(fl1 E n2 k x).1]):=j8.app (Rep.sub hac s1) (Rep.a1V r1 hp Rep.a2M)
     obtain ⟨ρ4,os2,n4,new4,cells4,t2,f2,s2,r2,o2,k2⟩:=a10 hm ks vs r (g x) a _ _ _ _ ρ3 os1 hr h f1 t1 hac1
     refine ⟨ρ4,os2,n4,new4,cells4,t2,f2,B7 s1 s2,by simp_all,?_,fun K hK=>k2 K (hK x)⟩
     rw [b8O,b9V]
     grind
   . cases h
theorem b45 {cs:List Value} {cells:List E.SV} {n:Nat} (h:j8 E.N E.T ρ Z w cs cells) (hn:cells.length=n+1):∃ c0 v,cs=c0++[v]/\j8 E.N E.T ρ Z w c0 (cells.take n)/\Rep E.N E.T ρ Z w v (b1e cells)/\A2 v=true/\c0.length=n:=by
 induction n generalizing cs cells with
 | zero =>
  match cells,hn with
  | [s],_ =>
   obtain ⟨v,r,rfl,h1,hp,hr⟩:=j8.cons_inv h
   obtain rfl:=j8.a0Q hr
   exact ⟨[],v,rfl,j8.nil,h1,hp,rfl⟩
 | succ n ih =>
  match cells,hn with
  | s::t::r,hn =>
   obtain ⟨v,c,rfl,h1,hp,hr⟩:=j8.cons_inv h
   obtain ⟨c0,u,rfl,g1,g2,g3,g4⟩:=ih hr (by simp_all)
   exact ⟨v::c0,u,rfl,j8.cons h1 hp g1,g2,g3,by simp [g4]⟩
theorem c1f {T:Nat} {ks:List VK} {α:Type} (hm:Mem E C ρ Z w (its++lkd) nx):∀ (n:Nat) (v:Value) (sv:E.SV) (g:chD E.N α ks n) (a:α) (n2:Nat) (new:a7 E.N) (ρ2:r9) (os:List (Option Nat)),
  Rep E.N E.T ρ Z w v sv->c7g E its T ks n sv g=some a->(∀ i,n2<=i->ρ2 i=none)->Q8 E C.B0 ρ Z w its ρ2 os new ->
  ∃ ρ3 os' n3 new' sv',Q8 E C.B0 ρ Z w its ρ3 os' new'/\(∀ i,n3<=i->ρ3 i=none)/\(∀ i L,ρ2 i=some L->ρ3 i=some L)/\Rep E.N E.T ρ3 Z w v sv'/\A2 v=true/\(os'.filterMap id).Perm (a9e its ks n sv++os.filterMap id)/\∀ K,c5c E T ks n n2 new g K->K a n3 new' sv'
 | 0,v,sv,g,a,n2,new,ρ2,os,hr,h,hfr,ht=>by
  unfold c7g at h
  split at h
  . split at h
    . split at h
      . cases h
        cases hr
        exact ⟨ρ2,os,n2,new,_,ht,hfr,fun _ _ h=>h,.con rfl,rfl,b8Q _,fun K h=>h⟩
      . cases h
    . cases h
  . cases h
 | n+1,v,sv,g,a,n2,new,ρ2,os,hr,h,hfr,ht=>by
  unfold c7g at h
  split at h
  . rename_i id off
    have ⟨ho0,hh⟩:=j7 h
    clear h
    have h:=hh
    clear hh
    have ho0:=b3Q ho0
    subst ho0
    split at h
    . rename_i T' cells hi
      have ⟨hb,hh⟩:=j7 h
      clear h
      have h:=hh
      clear hh
      obtain ⟨hb1,hb2⟩:=(b3R _ _).mp hb
      have hb1:=b3Q hb1
      have hb2:=b3Q hb2
      subst hb1
      split at h
      . rename_i g1 hc
        obtain ⟨j,hj,_⟩:=v6 hi
        obtain ⟨L,cs,hL,hbs,ho,hrep⟩:=hm.holds (n8 (l2:=lkd) hj)
        have hL:ρ id=some L:=hL
        cases hr with
        | ref hL' =>
         rw [hL] at hL'; cases hL'
         obtain ⟨c0,u,rfl,k1,k2,k3,k4⟩:=b45 hrep hb2
         have s0:=z6 (L:=L) (hfr n2 (b4H _))
         obtain ⟨ρ3,os1,n3,new3,cells3,t1,f1,s1,r1,o1,q1⟩:=a10 hm ks (cells.take ks.length) c0 g g1 (n2+1) new [] [] (C1 ρ2 n2 L) os k1 hc (fun i hi=>by unfold C1; grind) (ht.mono s0) j8.nil
         obtain ⟨ρ4,os2,n4,new4,sv4,t2,f2,s2,r2,p2,o2,q2⟩:=c1f hm n u (b1e cells) g1 a n3 new3 ρ3 os1 k2 h f1 t1
         have hL4:ρ4 n2=some L:=s2 _ _ (s1 _ _ k7)
         have r1':j8 E.N E.T ρ3 Z w c0 cells3:=by simpa using r1
         refine ⟨ρ4,some id::os2,n4,(n2,.own T' (cells3++[sv4]))::new4,.ref n2 0,.cons ⟨_,hi,⟨L,c0++[u],hL4,hbs,ho,j8.app (Rep.sub r1' s2) (j8.cons r2 p2 j8.nil)⟩,fun b hb=>by rw [A8 hL4] at hb; rw [A8 hL]; exact hb⟩ t2,f2,B7 s0 (B7 s1 s2),.ref hL4,rfl,?_,fun K hK=>q2 _ (q1 _ hK)⟩
         have e:a9e its ks (n+1) (.ref id 0)=id::(((ks.zip (cells.take ks.length)).flatMap fun p=>O6 p.1 p.2)++a9e its ks n (b1e cells)):=by
          rw [<- a5n]
          conv=>lhs; unfold a9e
          simp only [hi]
         grind
      . cases h
    . cases h
  . cases h
theorem a4q {α:Type} {nm ids:List Nat} (hm:Mem E C ρ Z w (its++lkd) nx):∀ (ks:List TK) (vs:List E.SV) (cs:List Value) (g:tcD E.N α ks) (a:α) (n2:Nat) (new:a7 E.N) (acc:List E.SV) (ac:List Value) (ρ2:r9) (os:List (Option Nat)),
  j8 E.N E.T ρ Z w cs vs->b07 E its ids ks vs g=some a->(∀ i,n2<=i->ρ2 i=none)->Q8 E C.B0 ρ Z w its ρ2 os new->j8 E.N E.T ρ2 Z w ac acc->(∀ j id,a2z ids j id=true->∃ L,ρ id=some L/\ρ2 (nm.getD j 0)=some L) ->
  ∃ ρ3 os' n3 new' cells',Q8 E C.B0 ρ Z w its ρ3 os' new'/\(∀ i,n3<=i->ρ3 i=none)/\(∀ i L,ρ2 i=some L->ρ3 i=some L)/\j8 E.N E.T ρ3 Z w (ac++cs) cells'/\(os'.filterMap id).Perm (a4t ks vs++os.filterMap id)/\∀ K,a6b E nm ks n2 new acc g K->K a n3 new' cells'
 | [],vs,cs,g,a,n2,new,acc,ac,ρ2,os,hr,h,hfr,ht,hac,_=>by
  cases vs with
  | nil =>
   cases h
   obtain rfl:=j8.a0Q hr
   exact ⟨ρ2,os,n2,new,acc,ht,hfr,fun _ _ h=>h,by simp_all,b8Q _,fun K h=>h⟩
  | cons v vs=>cases h
 | .v k::ks,vs,cs,g,a,n2,new,acc,ac,ρ2,os,hr,h,hfr,ht,hac,hH=>by
  cases vs with
  | nil=>cases h
  | cons v vs =>
   obtain ⟨u,r,rfl,hu,hp,hq⟩:=j8.cons_inv hr
   simp only [b07] at h
   split at h
   . rename_i x hx
     obtain ⟨ρ3,os1,t1,f1,s1,r1,o1⟩:=Y6 hm hu hx hfr ht
     have hac1:j8 E.N E.T ρ3 Z w (ac++[u]) (acc++[(fl1 E n2 k x).1]):=j8.app (Rep.sub hac s1) (Rep.a1V r1 hp Rep.a2M)
     obtain ⟨ρ4,os2,n4,new4,cells4,t2,f2,s2,r2,o2,k2⟩:=a4q hm ks vs r (g x) a _ _ _ _ ρ3 os1 hq h f1 t1 hac1 (fun j id hj=>by obtain ⟨L,e1,e2⟩:=hH j id hj; exact ⟨L,e1,s1 _ _ e2⟩)
     refine ⟨ρ4,os2,n4,new4,cells4,t2,f2,B7 s1 s2,by simp_all,?_,fun K hK=>k2 K (hK x)⟩
     refine o2.trans ?_
     show (a4t ks vs++os1.filterMap id).Perm ((O6 k v++a4t ks vs)++os.filterMap id)
     grind
   . cases h
 | .to j::ks,vs,cs,g,a,n2,new,acc,ac,ρ2,os,hr,h,hfr,ht,hac,hH=>by
  cases vs with
  | nil=>cases h
  | cons v vs =>
   obtain ⟨u,r,rfl,hu,hp,hq⟩:=j8.cons_inv hr
   simp only [b07] at h
   split at h
   . rename_i id off
     have ⟨hb,h2⟩:=j7 h
     clear h
     obtain ⟨hb1,hb2⟩:=(b3R _ _).mp hb
     have hb1:=b3Q hb1
     subst hb1
     obtain ⟨L,e1,e2⟩:=hH j id hb2
     have hru:Rep E.N E.T ρ2 Z w u (.ref (nm.getD j 0) 0):=by
      cases hu with
      | ref hL=>rw [e1] at hL; cases hL; exact .ref e2
     obtain ⟨ρ4,os2,n4,new4,cells4,t2,f2,s2,r2,o2,k2⟩:=a4q hm ks vs r g a n2 new _ _ ρ2 os hq h2 hfr ht (j8.app hac (Rep.a1V hru hp Rep.a2M)) hH
     exact ⟨ρ4,os2,n4,new4,cells4,t2,f2,s2,by simp_all,o2,fun K hK=>k2 K hK⟩
   . cases h
 | .a0U::ks,vs,cs,g,a,n2,new,acc,ac,ρ2,os,hr,h,hfr,ht,hac,hH=>by
  cases vs with
  | nil=>cases h
  | cons v vs =>
   obtain ⟨u,r,rfl,hu,hp,hq⟩:=j8.cons_inv hr
   simp only [b07] at h
   have ⟨hb,h2⟩:=j7 h
   clear h
   have hru:Rep E.N E.T ρ2 Z w u (.con (.pointer none)):=by
    unfold c93 at hb
    split at hb
    . split at hb
      . rename_i p
        cases p with
        | none=>cases hu; exact .con rfl
        | some p=>cases hb
      . cases hb
    . cases hb
   obtain ⟨ρ4,os2,n4,new4,cells4,t2,f2,s2,r2,o2,k2⟩:=a4q hm ks vs r g a n2 new _ _ ρ2 os hq h2 hfr ht (j8.app hac (Rep.a1V hru hp Rep.a2M)) hH
   exact ⟨ρ4,os2,n4,new4,cells4,t2,f2,s2,by simp_all,o2,fun K hK=>k2 K hK⟩
 | .any::ks,vs,cs,g,a,n2,new,acc,ac,ρ2,os,hr,h,hfr,ht,hac,hH=>by
  cases vs with
  | nil=>cases h
  | cons v vs =>
   obtain ⟨u,r,rfl,hu,hp,hq⟩:=j8.cons_inv hr
   simp only [b07] at h
   obtain ⟨ρ4,os2,n4,new4,cells4,t2,f2,s2,r2,o2,k2⟩:=a4q hm ks vs r g a n2 new _ _ ρ2 os hq h hfr ht (j8.app hac (Rep.a1V .un hp Rep.a2M)) hH
   exact ⟨ρ4,os2,n4,new4,cells4,t2,f2,s2,by simp_all,o2,fun K hK=>k2 K hK⟩
theorem b3t {α:Type} {ids:List Nat} (hm:Mem E C ρ Z w (its++lkd) nx):∀ (ps:List TP) (rest:List Nat) (g:tpD E.N α ps) (a:α),a6f E its ids ps rest g=some a->∀ id∈rest,∃ L,ρ id=some L
 | [],rest,g,a,h,id,hi=>by
  cases rest with
  | nil=>cases hi
  | cons _ _=>cases h
 | .own s0 T ks::ps,rest,g,a,h,id,hi=>by
  cases rest with
  | nil=>cases hi
  | cons id0 rest =>
   simp only [a6f] at h
   split at h
   . rename_i T' cells hl
     have ⟨_,h2⟩:=j7 h
     split at h2
     . rename_i g1 _
       rcases b4D.1 hi with rfl | hi
       . obtain ⟨j,hj,_⟩:=v6 hl
         obtain ⟨L,cs,hL,_⟩:=hm.holds (n8 (l2:=lkd) hj)
         simp_all
       . exact b3t hm ps rest g1 a h2 id hi
     . cases h2
   . cases h
 | .ob s0 k::ps,rest,g,a,h,id,hi=>by
  cases rest with
  | nil=>cases hi
  | cons id0 rest =>
   simp only [a6f] at h
   split at h
   . rename_i k' fid x hl
     split at h
     . rename_i hk
       rcases b4D.1 hi with rfl | hi
       . obtain ⟨j,hj,_⟩:=v6 hl
         obtain ⟨L,Lf,hL,_⟩:=hm.holds (n8 (l2:=lkd) hj)
         simp_all
       . exact b3t hm ps rest _ a h id hi
     . cases h
   . cases h
theorem b29 {α:Type} {nm ids:List Nat} (hm:Mem E C ρ Z w (its++lkd) nx):∀ (ps:List TP) (rest:List Nat) (i:Nat) (g:tpD E.N α ps) (a:α) (n2:Nat) (new:a7 E.N) (ρ2:r9) (os:List (Option Nat)),
  rest=ids.drop i->a6f E its ids ps rest g=some a->(∀ i,n2<=i->ρ2 i=none)->Q8 E C.B0 ρ Z w its ρ2 os new->(∀ j id,a2z ids j id=true->∃ L,ρ id=some L/\ρ2 (nm.getD j 0)=some L) ->
  ∃ ρ3 os' n3 new',Q8 E C.B0 ρ Z w its ρ3 os' new'/\(∀ i,n3<=i->ρ3 i=none)/\(∀ i L,ρ2 i=some L->ρ3 i=some L)/\(os'.filterMap id).Perm (a62 its ps rest++os.filterMap id)/\∀ K,b19 E nm ps i n2 new g K->K a n3 new'
 | [],rest,i,g,a,n2,new,ρ2,os,hrest,h,hfr,ht,hH=>by
  cases rest with
  | nil=>cases h; exact ⟨ρ2,os,n2,new,ht,hfr,fun _ _ h=>h,b8Q _,fun K h=>h⟩
  | cons _ _=>cases h
 | .own s0 T ks::ps,rest,i,g,a,n2,new,ρ2,os,hrest,h,hfr,ht,hH=>by
  cases rest with
  | nil=>cases h
  | cons id0 rest =>
   have hat:a2z ids i id0=true:=by
    have:ids[i]?=some id0:=by
     have e:(ids.drop i)[0]?=some id0:=by rw [<- hrest]; rfl
     simpa using e
    unfold a2z; rw [this]; exact b7Y _
   have hrest':rest=ids.drop (i+1):=by rw [<- b6R,<- hrest]; rfl
   simp only [a6f] at h
   split at h
   . rename_i T' cells hl
     have ⟨hb,h2⟩:=j7 h
     have hb:=b3Q hb
     subst hb
     split at h2
     . rename_i g1 hc
       obtain ⟨j,hj,_⟩:=v6 hl
       obtain ⟨L,cs,hL,hbs,ho,hrep⟩:=hm.holds (n8 (l2:=lkd) hj)
       have hL:ρ id0=some L:=hL
       obtain ⟨L',e1,e2⟩:=hH i id0 hat
       rw [hL] at e1; cases e1
       obtain ⟨ρ3,os1,n3,new3,cells3,t1,f1,s1,r1,o1,q1⟩:=a4q (nm:=nm) hm ks cells cs g g1 n2 new [] [] ρ2 os hrep hc hfr ht j8.nil hH
       have hL3:ρ3 (nm.getD i 0)=some L:=s1 _ _ e2
       have r1':j8 E.N E.T ρ3 Z w cs cells3:=by simpa using r1
       have t1':Q8 E C.B0 ρ Z w its ρ3 (some id0::os1) ((nm.getD i 0,.own T' cells3)::new3):=.cons ⟨_,hl,⟨L,cs,hL3,hbs,ho,r1'⟩,fun x hx=>by rw [A8 hL3] at hx; rw [A8 hL]; exact hx⟩ t1
       obtain ⟨ρ4,os2,n4,new4,t2,f2,s2,o2,q2⟩:=b29 hm ps rest (i+1) g1 a n3 _ ρ3 (some id0::os1) hrest' h2 f1 t1' (fun j id hj=>by obtain ⟨L,e1,e2⟩:=hH j id hj; exact ⟨L,e1,s1 _ _ e2⟩)
       refine ⟨ρ4,os2,n4,new4,t2,f2,B7 s1 s2,?_,fun K hK=>q2 K (q1 _ hK)⟩
       have e:a62 its (.own s0 T' ks::ps) (id0::rest)=(id0::a4t ks cells)++a62 its ps rest:=by simp only [a62,hl]
       grind
     . cases h2
   . cases h
 | .ob s0 k::ps,rest,i,g,a,n2,new,ρ2,os,hrest,h,hfr,ht,hH=>by
  cases rest with
  | nil=>cases h
  | cons id0 rest =>
   have hat:a2z ids i id0=true:=by
    have:ids[i]?=some id0:=by
     have e:(ids.drop i)[0]?=some id0:=by rw [<- hrest]; rfl
     simpa using e
    unfold a2z; rw [this]; exact b7Y _
   have hrest':rest=ids.drop (i+1):=by rw [<- b6R,<- hrest]; rfl
   simp only [a6f] at h
   split at h
   . rename_i k' fid x hl
     split at h
     . rename_i hk
       subst hk
       obtain ⟨j,hj,_⟩:=v6 hl
       obtain ⟨L,Lf,hL,hLf,ho⟩:=hm.holds (n8 (l2:=lkd) hj)
       have hL:ρ id0=some L:=hL
       obtain ⟨L',e1,e2⟩:=hH i id0 hat
       rw [hL] at e1; cases e1
       have hn:=hfr n2 (b4H _)
       have s1:=z6 (L:=Lf) hn
       have t1':Q8 E C.B0 ρ Z w its (C1 ρ2 n2 Lf) (some id0::os) ((nm.getD i 0,.ob k' n2 x)::new):=.cons ⟨_,hl,⟨L,Lf,s1 _ _ e2,k7,ho⟩,fun y hy=>by rw [D6 k7] at hy; rw [D6 hLf]; exact hy⟩ (ht.mono s1)
       obtain ⟨ρ4,os2,n4,new4,t2,f2,s2,o2,q2⟩:=b29 hm ps rest (i+1) (g x) a (n2+1) _ (C1 ρ2 n2 Lf) (some id0::os) hrest' h (fun j hj=>by unfold C1; grind) t1' (fun j id hj=>by obtain ⟨L,e1,e2⟩:=hH j id hj; exact ⟨L,e1,s1 _ _ e2⟩)
       exact ⟨ρ4,os2,n4,new4,t2,f2,B7 s1 s2,o2.trans List.perm_middle,fun K hK=>q2 K (hK x)⟩
     . cases h
   . cases h
theorem a9j {α:Type} {ids:List Nat}:∀ (ps:List TP) (rest:List Nat) (g:tpD E.N α ps) (a:α),a6f E its ids ps rest g=some a->rest.length=ps.length
 | [],rest,g,a,h=>by
  cases rest with
  | nil=>rfl
  | cons _ _=>cases h
 | .own s0 T ks::ps,rest,g,a,h=>by
  cases rest with
  | nil=>cases h
  | cons id0 rest =>
   simp only [a6f] at h
   split at h
   . have ⟨_,h2⟩:=j7 h
     split at h2
     . simp [a9j ps rest _ a h2]
     . cases h2
   . cases h
 | .ob s0 k::ps,rest,g,a,h=>by
  cases rest with
  | nil=>cases h
  | cons id0 rest =>
   simp only [a6f] at h
   split at h
   . split at h
     . rename_i hk; simp [a9j ps rest _ a h]
     . cases h
   . cases h
theorem c7a {ids:List Nat} {n2:Nat} (hin:∀ id∈ids,∃ L,ρ id=some L) (hfr:∀ i,n2<=i->ρ2 i=none) :
  ∃ ρ3:r9,(∀ i L,ρ2 i=some L->ρ3 i=some L)/\(∀ i,n2+ids.length<=i->ρ3 i=none)/\∀ j id,a2z ids j id=true->∃ L,ρ id=some L/\ρ3 (n2+j)=some L:=by
 refine ⟨fun i=>if n2<=i then (ids[i-n2]?).bind ρ else ρ2 i,fun i L h=>?_,fun i hi=>?_,fun j id hj=>?_⟩
 . grind
 . grind
 . unfold a2z at hj
   split at hj
   . rename_i i hi
     have:=b3Q hj
     subst this
     obtain ⟨L,hL⟩:=hin i (b4S hi)
     simp_all
   . cases hj
theorem a54 {ids:List Nat}:∀ {ss:List (Nat×Nat)},X5 fx st ids ss=true->∀ p∈ss,∃ id,s5 fx st p.1=.ref id 0/\a2z ids p.2 id=true
 | [],_,p,hp=>by cases hp
 | q::ss,h,p,hp=>by
  unfold X5 at h
  obtain ⟨h1,h2⟩:=(b3R _ _).mp h
  rcases b4D.1 hp with rfl | hp
  . split at h1
    all_goals simp_all
  . exact a54 h2 p hp
theorem c19 {q:Nat->Nat} {k:Nat} {s:E.SV} {r:o7 E.N}:∀ {ss:List (Nat×Nat)},lk ((ss.map fun p=>(p.1,(.ref (q p.2) 0:E.SV)))++r) k=some s->(∃ p∈ss,p.1=k/\s=.ref (q p.2) 0) ∨ lk r k=some s
 | [],h=>.inr h
 | x::ss,h=>by
  rw [b4W,b8C,H4] at h
  by_cases e:x.1=k
  . simp_all
  . rw [if_neg e] at h
    rcases c19 h with ⟨p,hp,e1,e2⟩ | h
    all_goals grind
theorem b0o {s:Nat} {p:TP}:∀ {ps:List TP} {i j:Nat},ps[j]?=some p->p.kept=some s->(s,i+j)∈a8i ps i
 | [],i,j,h,_=>by simp at h
 | q::ps,i,j,h,hk=>by
  unfold a8i
  cases j with
  | zero =>
   simp_all
  | succ j =>
   have ih:=b0o (i:=i+1) (j:=j) (by simpa using h) hk
   grind
theorem c06 {b:Nat}:∀ {l:List Nat} {i j r:Nat},l[j]?=some r->(tnm b i l).getD j 0=bif Nat.beq r 0 then b+(i+j) else r-1
 | [],i,j,r,h=>by simp at h
 | x::l,i,j,r,h=>by
  unfold tnm
  cases j with
  | zero=>simp_all
  | succ j =>
   have ih:=c06 (b:=b) (l:=l) (i:=i+1) (j:=j) (r:=r) (by simpa using h)
   grind
theorem e40 {ids:List Nat} {ps:List TP} {b:Nat} (hbase:∀ s id off,s5 fx st s=.ref id off->∃ L,ρb id=some L) (hk:X5 fx' st' ids (a8i ps 0)=true) (he:a0g fx' st' ps=a0g fx st ps) (hl:ids.length=ps.length) (h2:∀ i L,ρb i=some L->ρ2 i=some L) (hρ:∀ i L,ρb i=some L->ρ i=some L)
  (hH:∀ j id,a2z ids j id=true->∃ L,ρ id=some L/\ρ2 (b+j)=some L):∀ j id,a2z ids j id=true->∃ L,ρ id=some L/\ρ2 ((tnm b 0 (a0g fx st ps)).getD j 0)=some L:=by
 intro j id hj
 have hjl:j<ps.length:=by
  unfold a2z at hj
  split at hj
  . grind
  . cases hj
 have hp:=b3T hjl
 have hr:(a0g fx st ps)[j]?=some (b6p fx st ps[j]):=by unfold a0g; rw [b5S,hp]; rfl
 have hr':(a0g fx' st' ps)[j]?=some (b6p fx' st' ps[j]):=by unfold a0g; rw [b5S,hp]; rfl
 rw [he,hr] at hr'
 have e1:=b6E hr'
 rw [c06 hr]
 cases hkp:ps[j].kept with
 | none =>
  have:b6p fx st ps[j]=0:=by unfold b6p; rw [hkp]
  rw [this,b6J]
  simp_all
 | some s =>
  obtain ⟨id',hs,hat⟩:=a54 hk (s,0+j) (b0o hp hkp)
  have hs:s5 fx' st' s=.ref id' 0:=hs
  have hat:a2z ids j id'=true:=by simpa using hat
  have eid:id'=id:=by
   unfold a2z at hat hj
   split at hj
   . simp_all
   . cases hj
  subst eid
  have e2:b6p fx' st' ps[j]=id'+1:=by unfold b6p; rw [hkp]; simp only [hs]
  rw [e2] at e1
  have e3:∃ off,s5 fx st s=.ref id' off:=by
   unfold b6p at e1
   rw [hkp] at e1
   simp only at e1
   split at e1
   . simp_all
   . omega
  grind
theorem a7s {ids:List Nat} {b:List (Nat×Nat)}:∀ {a:List (Nat×Nat)},X5 fx st ids (a++b)=true->X5 fx st ids a=true/\X5 fx st ids b=true
 | [],h=>⟨rfl,h⟩
 | x::a,h=>by
  rw [b8C] at h
  unfold X5 at h
  obtain ⟨h1,h2⟩:=(b3R _ _).mp h
  obtain ⟨h3,h4⟩:=a7s h2
  refine ⟨?_,h4⟩
  unfold X5
  simp_all
structure b2e (E:Env) (B0:List Nat) (ρb ρ:r9) (Z:Nat->Prop) (f:Fr) (w:World) (its:a7 E.N) (ρ2:r9) (os:List (Option Nat)) (new:E.St):Prop where
 tg:Q8 E B0 ρ Z w its ρ2 os new.items
 fr:∀ i,new.nx<=i->ρ2 i=none
 sub:∀ i L,ρb i=some L->ρ2 i=some L
 sl:∀ k s,lk new.slots k=some s->Rep E.N E.T ρ2 Z w (f k) s
 gs:new.gs=[]
theorem b67:∀ {a b:List Nat},eqL a b=true->a=b
 | [],[],_=>rfl
 | [],_::_,h=>by cases h
 | _::_,[],h=>by cases h
 | x::a,y::b,h=>by
  simp only [eqL,b3R] at h
  rw [b3Q h.1,b67 h.2]
theorem S3 (hbO:∀ s id,a3T fx st s=some id->∃ L,ρb id=some L) (hbase:∀ s id off,s5 fx st s=.ref id off->∃ L,ρb id=some L) (hbA:∀ s id,b8f (s5 fx st s)=some id ∨ obN (s5 fx st s)=some id->∃ L,ρb id=some L) (hρ:∀ i L,ρb i=some L->ρ i=some L) (h:Rel E C fx' lkd st' ρ Z f w) {α:Type} :
  ∀ (vs:List LV) (g:Cur E.N α vs) (a:α) (new:E.St) (ρ2:r9) (os:List (Option Nat)),O7 E fx' st' vs g=some a->C9 E fx' st' vs=C9 E fx st vs->b2e E C.B0 ρb ρ Z f w st'.items ρ2 os new->∀ K,S6 E fx st vs g new K ->
  ∃ new' ρ3 os',b2e E C.B0 ρb ρ Z f w st'.items ρ3 os' new'/\(os'.filterMap id).Perm (D5 E fx' st' vs++os.filterMap id)/\K a new'
 | [],g,a,new,ρ2,os,hr,_,hF,K,hK=>by cases hr; exact ⟨new,ρ2,os,hF,b8Q _,hK⟩
 | .slot s k::vs,g,a,new,ρ2,os,hr,he,hF,K,hK=>by
  simp only [O7] at hr
  split at hr
  . rename_i x hx
    obtain ⟨ρ3,os1,t1,f1,s1,r1,o1⟩:=Y6 h.mem (h.slot s) hx hF.fr hF.tg
    have hF1:b2e E C.B0 ρb ρ Z f w st'.items ρ3 os1 ⟨(s,(fl1 E new.nx k x).1)::new.slots,[],(fl1 E new.nx k x).2.1++new.items,(fl1 E new.nx k x).2.2⟩:=⟨t1,f1,B7 hF.sub s1,fun k' s' hk=>by
     rw [H4] at hk
     by_cases e:s=k'
     . simp_all
     . rw [if_neg e] at hk; exact Rep.sub (hF.sl k' s' hk) s1,rfl⟩
    obtain ⟨new',ρ4,os2,hF2,o2,k2⟩:=S3 hbO hbase hbA hρ h vs (g x) a _ ρ3 os1 hr (by simpa [C9,N4] using he) hF1 K (hK x)
    refine ⟨new',ρ4,os2,hF2,?_,k2⟩
    have e0:a3n E fx' st' (.slot s k)=O6 k (s5 fx' st' s):=rfl
    have e:D5 E fx' st' (.slot s k::vs)=O6 k (s5 fx' st' s)++D5 E fx' st' vs:=by
     show a3n E fx' st' (.slot s k)++D5 E fx' st' vs=_
     rw [e0]
    grind
  . cases hr
 | .own s ks::vs,g,a,new,ρ2,os,hr,he,hF,K,hK=>by
  simp only [O7] at hr
  split at hr
  . rename_i id hs
    split at hr
    . rename_i T cells hi
      split at hr
      . rename_i g1 hc
        have hE:C9 E fx' st' (.own s ks::vs)=[id,T]++C9 E fx' st' vs:=by
         show N4 E fx' st' (.own s ks)++C9 E fx' st' vs=_
         rw [show N4 E fx' st' (.own s ks)=[id,T] by simp [N4,hs,hi]]
        rw [hE] at he
        have heB:C9 E fx st (.own s ks::vs)=N4 E fx st (.own s ks)++C9 E fx st vs:=rfl
        rw [heB] at he
        obtain ⟨j,hj,_⟩:=v6 hi
        obtain ⟨L,cs,hL,hbs,ho,hrep⟩:=h.mem.holds (n8 (l2:=lkd) hj)
        have hL:ρ id=some L:=hL
        -- the base
        cases hsb:a3T fx st s with
        | some idb =>
         cases hib:lk st.items idb with
         | none=>exact absurd hK (by simp [S6,hsb,hib])
         | some ib =>
          cases ib with
          | own Tb cb =>
           simp only [N4,hsb,hib] at he
           have he2:id::T::C9 E fx' st' vs=idb::Tb::C9 E fx st vs:=he
           simp only [b8J] at he2
           obtain ⟨rfl,rfl,he3⟩:=he2
           obtain ⟨Lb,hLb⟩:=hbO s _ hsb
           have e1:=hρ _ _ hLb
           rw [hL] at e1; cases e1
           obtain ⟨ρ3,os1,n3,new3,cells3,t1,f1,s1,r1,o1,k1⟩:=a10 h.mem ks cells cs g g1 new.nx new.items [] [] ρ2 os hrep hc hF.fr hF.tg j8.nil
           have hL3:ρ3 id=some L:=s1 _ _ (hF.sub _ _ hLb)
           have hF1:b2e E C.B0 ρb ρ Z f w st'.items ρ3 (some id::os1) ⟨new.slots,[],(id,.own T cells3)::new3,n3⟩:=⟨.cons ⟨_,hi,⟨L,cs,hL3,hbs,ho,by simp_all⟩,fun b hb=>by rw [A8 hL3] at hb; rw [A8 hL]; exact hb⟩ t1,f1,B7 hF.sub s1,fun k' s' hk=>Rep.sub (hF.sl k' s' hk) s1,rfl⟩
           simp only [S6,hsb,hib] at hK
           obtain ⟨new',ρ4,os2,hF2,o2,k2⟩:=S3 hbO hbase hbA hρ h vs g1 a _ ρ3 (some id::os1) hr he3 hF1 K (k1 _ hK)
           refine ⟨new',ρ4,os2,hF2,?_,k2⟩
           . have e:D5 E fx' st' (.own s ks::vs)=id::((ks.zip cells).flatMap fun p=>O6 p.1 p.2)++D5 E fx' st' vs:=by
               show a3n E fx' st' (.own s ks)++D5 E fx' st' vs=_
               rw [show a3n E fx' st' (.own s ks)=id::((ks.zip cells).flatMap fun p=>O6 p.1 p.2) by simp only [a3n,hs,hi]; rw [a5n]]
             grind
          | _=>exact absurd hK (by simp [S6,hsb,hib])
        | none=>exact absurd hK (by simp [S6,hsb])
      . cases hr
    . cases hr
  . cases hr
 | .ob s k::vs,g,a,new,ρ2,os,hr,he,hF,K,hK=>by
  simp only [O7] at hr
  split at hr
  . rename_i id hs
    split at hr
    . rename_i k' fid x hi
      split at hr
      . rename_i hk
        subst hk
        have hE:C9 E fx' st' (.ob s k'::vs)=id::C9 E fx' st' vs:=by
         show N4 E fx' st' (.ob s k')++C9 E fx' st' vs=_
         rw [show N4 E fx' st' (.ob s k')=[id] by simp [N4,hs]]; rfl
        rw [hE] at he
        have heB:C9 E fx st (.ob s k'::vs)=N4 E fx st (.ob s k')++C9 E fx st vs:=rfl
        rw [heB] at he
        obtain ⟨j,hj,_⟩:=v6 hi
        obtain ⟨L,Lf,hL,hLf,ho⟩:=h.mem.holds (n8 (l2:=lkd) hj)
        have hL:ρ id=some L:=hL
        cases hsb:obN (s5 fx st s) with
        | some idb =>
         simp only [N4,hsb] at he
         have he2:id::C9 E fx' st' vs=idb::C9 E fx st vs:=he
         simp only [b8J] at he2
         obtain ⟨rfl,he3⟩:=he2
         obtain ⟨Lb,hLb⟩:=hbA s _ (.inr hsb)
         have e1:=hρ _ _ hLb
         rw [hL] at e1; cases e1
         have hn:=hF.fr new.nx (b4H _)
         have s1:=z6 (L:=Lf) hn
         have hF1:b2e E C.B0 ρb ρ Z f w st'.items (C1 ρ2 new.nx Lf) (some id::os) ⟨new.slots,[],(id,.ob k' new.nx x)::new.items,new.nx+1⟩:=⟨.cons ⟨_,hi,⟨L,Lf,s1 _ _ (hF.sub _ _ hLb),k7,ho⟩,fun b hb=>by rw [D6 k7] at hb; rw [D6 hLf]; exact hb⟩ (hF.tg.mono s1),fun i hi=>by
          have hi:new.nx+1<=i:=hi
          unfold C1; rw [if_neg (by omega)]; exact hF.fr i (by omega),B7 hF.sub s1,fun k' s' hk=>Rep.sub (hF.sl k' s' hk) s1,rfl⟩
         simp only [S6,hsb] at hK
         obtain ⟨new',ρ4,os2,hF2,o2,k2⟩:=S3 hbO hbase hbA hρ h vs (g x) a _ _ (some id::os) hr he3 hF1 K (hK x)
         refine ⟨new',ρ4,os2,hF2,?_,k2⟩
         . have e:D5 E fx' st' (.ob s k'::vs)=id::D5 E fx' st' vs:=by
             show a3n E fx' st' (.ob s k')++D5 E fx' st' vs=_
             rw [show a3n E fx' st' (.ob s k')=[id] by simp [a3n,hs]]; rfl
           grind
        | none=>exact absurd hK (by simp [S6,hsb])
      . cases hr
    . cases hr
  . cases hr
 | .cont s t::vs,g,a,new,ρ2,os,hr,he,hF,K,hK=>by
  simp only [O7] at hr
  split at hr
  . rename_i id hs
    split at hr
    . rename_i t' l hi
      split at hr
      . rename_i hk
        subst hk
        have hE:C9 E fx' st' (.cont s t'::vs)=id::C9 E fx' st' vs:=by
         show N4 E fx' st' (.cont s t')++C9 E fx' st' vs=_
         rw [show N4 E fx' st' (.cont s t')=[id] by simp [N4,hs]]; rfl
        rw [hE] at he
        have heB:C9 E fx st (.cont s t'::vs)=N4 E fx st (.cont s t')++C9 E fx st vs:=rfl
        rw [heB] at he
        obtain ⟨j,hj,_⟩:=v6 hi
        obtain ⟨L,hL,hn1,hn2,hac⟩:=h.mem.holds (n8 (l2:=lkd) hj)
        cases hsb:b8f (s5 fx st s) with
        | some idb =>
         simp only [N4,hsb] at he
         have he2:id::C9 E fx' st' vs=idb::C9 E fx st vs:=he
         simp only [b8J] at he2
         obtain ⟨rfl,he3⟩:=he2
         obtain ⟨Lb,hLb⟩:=hbA s _ (.inl hsb)
         have e1:=hρ _ _ hLb
         have hL:ρ id=some L:=hL
         rw [hL] at e1; cases e1
         have hF1:b2e E C.B0 ρb ρ Z f w st'.items ρ2 (some id::os) ⟨new.slots,[],(id,.ac t' l)::new.items,new.nx⟩:=⟨.cons ⟨_,hi,⟨L,hF.sub _ _ hLb,hn1,hn2,hac⟩,fun b hb=>by rw [u6 (hF.sub _ _ hLb)] at hb; rw [u6 hL]; exact hb⟩ hF.tg,hF.fr,hF.sub,hF.sl,rfl⟩
         simp only [S6,hsb] at hK
         obtain ⟨new',ρ4,os2,hF2,o2,k2⟩:=S3 hbO hbase hbA hρ h vs (g l) a _ _ (some id::os) hr he3 hF1 K (hK l)
         refine ⟨new',ρ4,os2,hF2,?_,k2⟩
         . have e:D5 E fx' st' (.cont s t'::vs)=id::D5 E fx' st' vs:=by
             show a3n E fx' st' (.cont s t')++D5 E fx' st' vs=_
             rw [show a3n E fx' st' (.cont s t')=[id] by simp [a3n,hs]]; rfl
           grind
        | none=>exact absurd hK (by simp [S6,hsb])
      . cases hr
    . cases hr
  . cases hr
 | .chain s n T ks::vs,g,a,new,ρ2,os,hr,he,hF,K,hK=>by
  simp only [O7] at hr
  split at hr
  . rename_i g1 hc
    obtain ⟨ρ3,os1,n3,new3,sv3,t1,f1,s1,r1,_,o1,q1⟩:=c1f h.mem n (f s) (s5 fx' st' s) g g1 new.nx new.items ρ2 os (h.slot s) hc hF.fr hF.tg
    have hF1:b2e E C.B0 ρb ρ Z f w st'.items ρ3 os1 ⟨(s,sv3)::new.slots,[],new3,n3⟩:=⟨t1,f1,B7 hF.sub s1,fun k' s' hk=>by
     rw [H4] at hk
     by_cases e:s=k'
     . simp_all
     . rw [if_neg e] at hk; exact Rep.sub (hF.sl k' s' hk) s1,rfl⟩
    obtain ⟨new',ρ4,os2,hF2,o2,k2⟩:=S3 hbO hbase hbA hρ h vs g1 a _ ρ3 os1 hr (by simpa [C9,N4] using he) hF1 K (q1 _ hK)
    refine ⟨new',ρ4,os2,hF2,?_,k2⟩
    have e:D5 E fx' st' (.chain s n T ks::vs)=a9e st'.items ks n (s5 fx' st' s)++D5 E fx' st' vs:=rfl
    grind
  . cases hr
 | .rows s n t ks::vs,g,a,new,ρ2,os,hr,he,hF,K,hK=>by
  simp only [O7] at hr
  split at hr
  . rename_i id hs
    split at hr
    . rename_i t' n' cells hi
      have ⟨hb,h2⟩:=j7 hr
      clear hr
      simp only [b3R] at hb
      obtain ⟨e1,e2⟩:=hb
      have e1:=b3Q e1
      have e2:=b3Q e2
      subst e1; subst e2
      split at h2
      . rename_i g1 hc
        obtain ⟨j,hj,_⟩:=v6 hi
        obtain ⟨L,F,hL,hn1,hbg,hA,hrw,hrep⟩:=h.mem.holds (n8 (l2:=lkd) hj)
        have hL:ρ id=some L:=hL
        have hsl:=h.slot s
        rw [hs] at hsl
        have hval:f s=.slice L.A L.n L.cap:=by
         generalize f s=u at hsl
         cases hsl with
         | acc hL'=>simp_all
        have s0:=z6 (L:=L) (hF.fr new.nx (b4H _))
        obtain ⟨ρ3,os1,n3,new3,cells3,t1,f1,s1,r1,o1,q1⟩:=a10 h.mem (a7o ks n') cells F g g1 (new.nx+1) new.items [] [] (C1 ρ2 new.nx L) os hrep hc (fun i hi=>by unfold C1; rw [if_neg (by omega)]; exact hF.fr i (by omega)) (hF.tg.mono s0) j8.nil
        have hL3:ρ3 new.nx=some L:=s1 _ _ k7
        have r1':j8 E.N E.T ρ3 Z w F cells3:=by simpa using r1
        have hF1:b2e E C.B0 ρb ρ Z f w st'.items ρ3 (some id::os1) ⟨(s,.acc new.nx)::new.slots,[],(new.nx,.rw t' n' cells3)::new3,n3⟩:=⟨.cons ⟨_,hi,⟨L,F,hL3,hn1,hbg,hA,hrw,r1'⟩,fun b hb=>by rw [E7 hL3] at hb; rw [E7 hL]; exact hb⟩ t1,f1,B7 hF.sub (B7 s0 s1),fun k' s' hk=>by
         rw [H4] at hk
         by_cases e:s=k'
         . rw [if_pos e] at hk; cases hk; subst e; rw [hval]; exact .acc hL3
         . rw [if_neg e] at hk; exact Rep.sub (hF.sl k' s' hk) (B7 s0 s1),rfl⟩
        have hK2:Z7 E (a7o ks n') (new.nx+1) new.items [] g (fun g nx its cs=>S6 E fx st vs g ⟨(s,.acc new.nx)::new.slots,[],(new.nx,.rw t' n' cs)::its,nx⟩ K):=by
         simp only [S6] at hK
         cases hb:Nat.ble n' 1000000 with
         | true=>simp_all
         | false=>simp_all
        obtain ⟨new',ρ4,os2,hF2,o2,k2⟩:=S3 hbO hbase hbA hρ h vs g1 a _ ρ3 (some id::os1) h2 (by simpa [C9,N4] using he) hF1 K (q1 _ hK2)
        refine ⟨new',ρ4,os2,hF2,?_,k2⟩
        have e:D5 E fx' st' (.rows s n' t' ks::vs)=id::(((a7o ks n').zip cells).flatMap fun p=>O6 p.1 p.2)++D5 E fx' st' vs:=by
         show a3n E fx' st' (.rows s n' t' ks)++D5 E fx' st' vs=_
         rw [show a3n E fx' st' (.rows s n' t' ks)=id::(((a7o ks n').zip cells).flatMap fun p=>O6 p.1 p.2) by simp only [a3n,hs,hi]; rw [a5n]]
        grind
      . cases h2
    . cases hr
  . cases hr
 | .tree ss ps::vs,g,a,new,ρ2,os,hr,he,hF,K,hK=>by
  simp only [O7] at hr
  have ⟨hss,hr2⟩:=j7 hr
  clear hr
  split at hr2
  . rename_i g1 hc
    obtain ⟨hsk,hss⟩:=a7s hss
    have hE:a0g fx' st' ps++C9 E fx' st' vs=a0g fx st ps++C9 E fx st vs:=he
    obtain ⟨he1,he2⟩:=List.append_inj hE (by unfold a0g; simp_all)
    obtain ⟨ρ2',s0,f0,hH0⟩:=c7a (b3t h.mem ps _ g g1 hc) hF.fr
    have hlen:(a0x fx' st' ss ps).length=ps.length:=a9j ps _ g g1 hc
    rw [hlen] at f0
    have hH:=e40 hbase hsk he1 hlen (B7 hF.sub s0) hρ hH0
    obtain ⟨ρ3,os1,n3,new3,t1,f1,s1,o1,q1⟩:=b29 h.mem ps (a0x fx' st' ss ps) 0 g g1 (new.nx+ps.length) new.items ρ2' os rfl hc f0 (hF.tg.mono s0) hH
    have hF1:b2e E C.B0 ρb ρ Z f w st'.items ρ3 os1 ⟨(ss.map fun p=>(p.1,.ref ((tnm new.nx 0 (a0g fx st ps)).getD p.2 0) 0))++new.slots,[],new3,n3⟩:=⟨t1,f1,B7 hF.sub (B7 s0 s1),fun k' s' hk=>by
     rcases c19 (q:=fun j=>(tnm new.nx 0 (a0g fx st ps)).getD j 0) hk with ⟨p,hp,e1,e2⟩ | hk
     . subst e1; subst e2
       obtain ⟨id,hs,hat⟩:=a54 hss p hp
       have hsl:=h.slot p.1
       rw [hs] at hsl
       obtain ⟨L,e1,e2⟩:=hH p.2 id hat
       generalize f p.1=u at hsl
       cases hsl with
       | ref hL=>rw [e1] at hL; cases hL; exact .ref (s1 _ _ e2)
     . exact Rep.sub (hF.sl k' s' hk) (B7 s0 s1),rfl⟩
    obtain ⟨new',ρ4,os2,hF2,o2,k2⟩:=S3 hbO hbase hbA hρ h vs g1 a _ ρ3 os1 hr2 he2 hF1 K (q1 _ hK)
    refine ⟨new',ρ4,os2,hF2,?_,k2⟩
    have e:D5 E fx' st' (.tree ss ps::vs)=a62 st'.items ps (a0x fx' st' ss ps)++D5 E fx' st' vs:=rfl
    grind
  . cases hr2
 | .alt::vs,g,a,new,ρ2,os,hr,he,hF,K,hK=>by cases hr
 | .unr _::vs,g,a,new,ρ2,os,hr,he,hF,K,hK=>by cases hr
end
end Go.Rx
end
section
namespace Go.Rx
open Go Go.Wk Go.Wl
section
variable {B0:List Nat} {w0 w w':World} {Z Z':Nat->Prop} {l l':List It}
theorem Sep.pw (hs:Sep B0 w0 Z w l):(∀ t∈l,t.Ok B0 w0 Z w)/\l.Pairwise (fun s t=>∀ b∈s.F,b ∉ t.F):=by
 refine ⟨fun t ht=>?_,?_⟩
 . obtain ⟨i,hi,rfl⟩:=b4I ht
   exact hs.ok i _ (by simp [hi])
 . rw [b7N]
   intro i j hi hj hij
   exact hs.apart i j _ _ (by simp [hi]) (by simp [hj]) (by omega)
theorem Sep.b0U (hx:Ext B0 w0 w) (hz:∀ b,Z b->b<w.heap.size) (h1:∀ t∈l,t.Ok B0 w0 Z w) (h2:l.Pairwise (fun s t=>∀ b∈s.F,b ∉ t.F)):Sep B0 w0 Z w l:=by
 refine ⟨hx,hz,fun k t hk=>h1 t (b4S hk),fun j k s t hj hk hne=>?_⟩
 rw [b7N] at h2
 grind
theorem Sep.perm (hs:Sep B0 w0 Z w l) (hp:l.Perm l'):Sep B0 w0 Z w l':=by
 obtain ⟨h1,h2⟩:=Sep.pw hs
 exact Sep.b0U hs.ext hs.zlt (fun t ht=>h1 t (hp.mem_iff.2 ht)) ((hp.pairwise_iff (fun {a b} h x hx hx'=>h x hx' hx)).1 h2)
end
section
variable {E:Env} {C:Ctx} {f:Fr} {w w':World}
variable {ρ ρ':r9} {Z Z':Nat->Prop} {its its' lkd:a7 E.N} {nx:Nat} {fx:o7 E.N} {st:E.St}
theorem Mem.perm (hm:Mem E C ρ Z w its nx) (hp:its.Perm its'):Mem E C ρ Z w its' nx:=⟨Sep.perm hm.sep (hp.map _),hm.fr,hm.ge,hm.zge,hm.zle⟩
theorem a3f (its:a7 E.N) (ids:List Nat):its.Perm (within its ids++n9 its ids):=by
 induction its with
 | nil=>exact List.Perm.nil
 | cons p r ih =>
  unfold within n9 at *
  rw [b7Q,b7Q]
  cases ids.elem p.1 with
  | true=>simp_all
  | false=>exact ((List.Perm.cons p ih).trans List.perm_middle.symm)
def Ctx.at (C:Ctx) (ρ:r9) (Z:Nat->Prop) (w:World):Ctx:=⟨ρ,Z,C.w0,C.B0,w⟩
theorem Mem.down (hm:Mem E C ρ Z w its nx):Mem E (C.at ρ Z w) ρ Z w its nx:=⟨hm.sep,hm.fr,fun _ _ h=>h,fun _ h=>h,fun _ h=>.inl h⟩
theorem Mem.upC {ρb:r9} {Zb:Nat->Prop} {wb:World} {nb:Nat} {ib:a7 E.N} (hb:Mem E C ρb Zb wb ib nb) (hm:Mem E (C.at ρb Zb wb) ρ Z w its nx):Mem E C ρ Z w its nx :=
 ⟨hm.sep,hm.fr,fun i L e=>hm.ge i L (hb.ge i L e),fun b h=>hm.zge b (hb.zge b h),fun b h=>by
  rcases hm.zle b h with h | h
  . exact hb.zle b h
  . exact .inr h⟩
theorem Rel.enter (h:Rel E C fx lkd st ρ Z f w) (keep ids:List Nat):Rel E (C.at ρ Z w) (D4 fx st keep++fx) (n9 st.items ids++lkd) (inn st ids) ρ Z f w:=by
 refine ⟨h.sl,fun p hp=>?_,fun k j b s hk=>(by cases hk),?_,Tn.refl _ _ _,h.a3U⟩
 . rcases b5Y.1 hp with hp | hp
   . simp only [D4,b5C] at hp
     obtain ⟨s,_,rfl⟩:=hp
     exact h.slot s
   . exact h.fx p hp
 . refine h.mem.down.perm ?_
   rw [show (inn st ids).items=within st.items ids from rfl,<- b4L]
   exact (a3f st.items ids).append_right lkd
theorem b6s {β:Type} {l l2:List (Nat×β)} {k:Nat} {s:β} (h:lk (l++l2) k=some s):lk l k=some s ∨ (lk l k=none/\lk l2 k=some s):=by
 induction l with
 | nil=>exact .inr ⟨rfl,h⟩
 | cons p r ih =>
  have h:(bif Nat.beq p.1 k then some p.2 else lk (r++l2) k)=some s:=h
  show (bif Nat.beq p.1 k then some p.2 else lk r k)=some s ∨ ((bif Nat.beq p.1 k then some p.2 else lk r k)=none/\lk l2 k=some s)
  grind
theorem Rel.leave {ρb:r9} {Zb:Nat->Prop} {wb:World} {fb:Fr} {st':E.St} (hb:Rel E C fx lkd st ρb Zb fb wb) {ks:o7 E.N} {is:a7 E.N} (h:Rel E (C.at ρb Zb wb) (ks++fx) (is++lkd) st' ρ Z f w):Rel E C fx lkd ⟨st'.slots++ks,[],st'.items++is,st'.nx⟩ ρ Z f w:=by
 refine ⟨fun k s hk=>?_,fun p hp=>h.fx p (b7J _ hp),fun k j b s hk=>(by cases hk),?_,hb.tn.trans h.tn,hb.g⟩
 . rcases b6s hk with hk | ⟨_,hk⟩
   . exact h.sl k s hk
   . obtain ⟨i,hi,_⟩:=v6 hk
     exact h.fx (k,s) (b6V _ (b4S hi))
 . have:=Mem.upC hb.mem h.mem
   simp_all
end
end Go.Rx
end
section
namespace Go.Rx
open Go Go.Wk Go.Wl
section
variable {N:Uni} {T:O9} {f:Nat->Option Nat} {ρ ρ':r9} {Z:Nat->Prop} {w:World} {v:Value} {s s':SV N} {cs:List Value} {ss ss':List (SV N)}
def a3v (f:Nat->Option Nat) (ρ ρ':r9):Prop:=∀ i j,f i=some j->∀ L,ρ i=some L->ρ' j=some L
theorem c12 (hf:a3v f ρ ρ') (h:b6q f s=some s') (r:Rep N T ρ Z w v s):Rep N T ρ' Z w v s':=by
 cases s with
 | ref id off =>
  simp only [b6q,b3Y] at h
  obtain ⟨j,hj,rfl⟩:=h
  cases r with | ref hL=>exact .ref (hf _ _ hj _ hL)
 | acc id =>
  simp only [b6q,b3Y] at h
  obtain ⟨j,hj,rfl⟩:=h
  cases r with | acc hL=>exact .acc (hf _ _ hj _ hL)
 | el id t i off =>
  simp only [b6q,b3Y] at h
  obtain ⟨j,hj,rfl⟩:=h
  cases r with | el hL h0 h1=>exact .el (hf _ _ hj _ hL) h0 h1
 | sub id t lo n =>
  simp only [b6q,b3Y] at h
  obtain ⟨j,hj,rfl⟩:=h
  cases r with | a2W hL a b c d e=>exact .a2W (hf _ _ hj _ hL) a b c d e
 | ifc t v=>cases h
 | agg vs=>cases h
 | tup vs=>cases h
 | clo K vs=>cases h
 | yld id =>
  simp only [b6q,b3Y] at h
  obtain ⟨j,hj,rfl⟩:=h
  cases r with | yld hL=>exact .yld (hf _ _ hj _ hL)
 | un=>cases h; exact .un
 | undef=>cases h; cases r; exact .undef
 | int k x=>cases h; cases r with | int h=>exact .int h
 | byte c=>cases h; cases r; exact .byte
 | tt=>cases h; cases r; exact .tt
 | ff=>cases h; cases r; exact .ff
 | bl p d=>cases h; cases r; exact .bl
 | str x=>cases h; cases r with | str h=>exact .str h
 | con x=>cases h; cases r with | con h=>exact .con h
 | a1K=>cases h; cases r; exact .a1K
 | sl t l=>cases h; cases r with | sl h=>exact .sl h
 | fel t l i off=>cases h; cases r with | fel h a b=>exact .fel h a b
 | err e=>cases h; cases r with | err h=>exact .err h
 | fn K=>cases h; cases r; exact .fn
theorem a2e (hf:a3v f ρ ρ') (h:a5d f ss=some ss') (r:j8 N T ρ Z w cs ss):j8 N T ρ' Z w cs ss':=by
 induction ss generalizing cs ss' with
 | nil=>cases h; obtain rfl:=j8.a0Q r; exact j8.nil
 | cons s ss ih =>
  obtain ⟨u,c,rfl,h1,hp,h2⟩:=j8.cons_inv r
  simp only [a5d] at h
  split at h
  . rename_i a b ha hb
    cases h
    exact j8.cons (c12 hf ha h1) hp (ih hb h2)
  . cases h
theorem c1w (hf:a3v f ρ ρ') (h:d3b f s=some s') (r:Rep N T ρ Z w v s):Rep N T ρ' Z w v s':=by
 unfold d3b at h
 split at h
 . obtain ⟨ss',h1,rfl⟩:=b3Y.1 h
   obtain ⟨cs,rfl,hr⟩:=Rep.a1J r
   exact a2e hf h1 hr
 . obtain ⟨ss',h1,rfl⟩:=b3Y.1 h
   cases r with
   | clo r=>exact .clo (a2e hf h1 r)
 . exact c12 hf h r
theorem b4a (hf:a3v f ρ ρ') (h:a98 f ss=some ss') (r:Rep N T ρ Z w (.tuple cs.toArray) (.tup ss)):Rep N T ρ' Z w (.tuple cs.toArray) (.tup ss'):=by
 induction ss generalizing cs ss' with
 | nil =>
  cases h
  generalize e:Value.tuple cs.toArray=u at r
  cases r with | a1O=>exact .a1O
 | cons s ss ih =>
  obtain ⟨u,c,rfl,h1,h2⟩:=Rep.a0H r
  simp only [a98] at h
  split at h
  . rename_i a b ha hb
    cases h
    exact .a1F (c1w hf ha h1) (ih hb h2)
  . cases h
theorem d1p (hf:a3v f ρ ρ') (h:c90 f s=some s') (r:Rep N T ρ Z w v s):Rep N T ρ' Z w v s':=by
 unfold c90 at h
 split at h
 . obtain ⟨ss',h1,rfl⟩:=b3Y.1 h
   obtain ⟨cs,rfl⟩:=Rep.a2Y r
   exact b4a hf h1 r
 . exact c1w hf h r
theorem d4q {id id':Nat} {i i':Item N} (hf:a3v f ρ ρ') (hid:f id=some id') (h:c4d f i=some i') (r:holds N T ρ id Z w i):holds N T ρ' id' Z w i'/\u5 N ρ' id' i'=u5 N ρ id i:=by
 cases i with
 | own Ty cells =>
  obtain ⟨ss',h1,rfl⟩:=b3Y.1 (show (a5d f cells).map (fun vs=>Item.own Ty vs)=some i' from h)
  obtain ⟨L,cs,hL,hbs,ho,hr⟩:=r
  have hL':=hf _ _ hid _ hL
  exact ⟨⟨L,cs,hL',hbs,ho,a2e hf h1 hr⟩,by rw [A8 hL,A8 hL']⟩
 | ac t l =>
  cases h
  obtain ⟨L,hL,r⟩:=r
  have hL':=hf _ _ hid _ hL
  exact ⟨⟨L,hL',r⟩,by rw [u6 hL,u6 hL']⟩
 | fz t l =>
  cases h
  obtain ⟨L,hL,r⟩:=r
  exact ⟨⟨L,hf _ _ hid _ hL,r⟩,rfl⟩
 | ob k fid x =>
  obtain ⟨j,h1,rfl⟩:=b3Y.1 (show (f fid).map (fun j=>Item.ob k j x)=some i' from h)
  obtain ⟨L,Lf,hL,hLf,r⟩:=r
  have hL':=hf _ _ hid _ hL
  have hLf':=hf _ _ h1 _ hLf
  exact ⟨⟨L,Lf,hL',hLf',r⟩,by rw [D6 hLf,D6 hLf']⟩
 | rw t n cells =>
  obtain ⟨ss',h1,rfl⟩:=b3Y.1 (show (a5d f cells).map (fun vs=>Item.rw t n vs)=some i' from h)
  obtain ⟨L,F,hL,hn,hb,hA,hr,hrep⟩:=r
  have hL':=hf _ _ hid _ hL
  exact ⟨⟨L,F,hL',hn,hb,hA,hr,a2e hf h1 hrep⟩,by rw [E7 hL,E7 hL']⟩
theorem P7 {id:Nat} {i:Item N} (h:holds N T ρ id Z w i):(∃ L,ρ id=some L)/\∀ k fid x,i=.ob k fid x->∃ L,ρ fid=some L:=by
 cases i with
 | own Ty cells=>obtain ⟨L,cs,hL,_⟩:=h; simp_all
 | ac t l=>obtain ⟨L,hL,_⟩:=h; simp_all
 | fz t l=>obtain ⟨L,hL,_⟩:=h; simp_all
 | ob k fid x=>obtain ⟨L,Lf,hL,hLf,_⟩:=h; grind
 | rw t n cells=>obtain ⟨L,F,hL,_⟩:=h; simp_all
theorem d1r {nm:List (Option Nat)} {n i p:Nat} (h:a0r nm n i=some p):n<=p/\nm[p-n]?=some (some i):=by
 induction nm generalizing n with
 | nil=>cases h
 | cons o r ih =>
  unfold a0r at h
  cases o with
  | none =>
   grind
  | some j =>
   simp only at h
   cases hb:Nat.beq j i with
   | true =>
    simp_all
   | false =>
    grind
theorem c1t {its:a7 N}:∀ {ids:List Nat} {p:Nat} {l:a7 N},c2l its f p ids=some l->l.length=ids.length/\∀ (k:Nat) (q:Nat×Item N),l[k]?=some q->∃ i it,ids[k]?=some i/\lk its i=some it/\c4d f it=some q.2/\q.1=p+k
 | [],_,l,h=>by cases h; simp_all
 | i::r,p,l,h=>by
  simp only [c2l] at h
  split at h
  . rename_i it hit
    split at h
    . rename_i it' l' h1 h2
      cases h
      obtain ⟨e,g⟩:=c1t h2
      grind
    . cases h
  . cases h
theorem b43:∀ {its its':a7 N},b0r f its=some its'->its'.length=its.length/\∀ (k:Nat) (q:Nat×Item N),its'[k]?=some q->∃ p,its[k]?=some p/\f p.1=some q.1/\c4d f p.2=some q.2
 | [],its',h=>by cases h; simp_all
 | p::r,its',h=>by
  simp only [b0r] at h
  split at h
  . rename_i i it r' h1 h2 h3
    cases h
    obtain ⟨e,g⟩:=b43 h3
    grind
  . cases h
end
section
variable {E:Env} {C:Ctx} {f fb:Fr} {w wb:World} {ρb ρ:r9} {Z Zb:Nat->Prop} {lkd its:a7 E.N} {fx:o7 E.N} {st st':E.St} {nx:Nat}
theorem V2:∀ {l:List Nat},distinct l=true->l.Nodup
 | [],_=>b8R
 | a::r,h=>by
  simp only [distinct,b3R,b7W] at h
  rw [b5U]
  refine ⟨fun hm=>?_,V2 h.2⟩
  simp_all
theorem b5w {v:Value} {s:E.SV} {id:Nat} (h:Rep E.N E.T ρ Z w v s) (e:d5d s=some id):∃ L,ρ id=some L:=by
 unfold d5d at e
 split at e
 . cases e; cases h with | ref hL=>simp_all
 . cases e
theorem Rel.a3T {s id:Nat} (h:Rel E C fx lkd st ρ Z f w) (e:Go.Rx.a3T fx st s=some id):∃ L,ρ id=some L:=by
 unfold Go.Rx.a3T at e
 cases hb:Nat.blt s 1000000 with
 | true=>rw [hb,b4G] at e; exact b5w (h.slot s) e
 | false =>
  rw [hb,b4X] at e
  have hs:=h.slot (s % 1000000)
  generalize hv:s5 fx st (s % 1000000)=x at e hs
  split at e
  . rename_i K vs
    split at e
    . rename_i v hv
      generalize f (s % 1000000)=u at hs
      cases hs with
      | clo r =>
       obtain ⟨v',_,h1,_⟩:=j8.get (show j8 E.N E.T ρ Z w _ vs from r) _ _ hv
       exact b5w h1 e
    . cases e
  . cases e
theorem a8z {keep ids:List Nat} {vs:List LV} {α:Type} {g:Cur E.N α vs} {Kα:α->Prop} {K:α->E.St->Prop} (h0:Rel E C fx lkd st ρb Zb fb wb)
  (h:Rel E (C.at ρb Zb wb) (D4 fx st keep++fx) (n9 st.items ids++lkd) st' ρ Z f w) (hv:rbP E fx st (D4 fx st keep++fx) st' vs g Kα) (hK:S6 E fx st vs g ⟨[],[],[],st.nx⟩ K) :
  ∃ new ρ2 a,Kα a/\K a new/\Rel E (C.at ρb Zb wb) (D4 fx st keep++fx) (n9 st.items ids++lkd) new ρ2 Z f w:=by
 unfold rbP at hv
 cases hb:c3e E fx st (D4 fx st keep++fx) st' vs with
 | false=>simp_all
 | true =>
  rw [hb,b4G] at hv
  unfold c3e at hb
  simp only [b3R] at hb
  obtain ⟨hd,hr⟩:=hb
  split at hv
  . rename_i a ha
    have hρ:∀ i L,ρb i=some L->ρ i=some L:=h.mem.ge
    have hbase:∀ s id off,s5 fx st s=.ref id off->∃ L,ρb id=some L:=fun s id off e=>by
     have:=h0.slot s
     rw [e] at this
     generalize fb s=u at this
     cases this with
     | ref hL=>simp_all
    have hbA:∀ s id,b8f (s5 fx st s)=some id ∨ obN (s5 fx st s)=some id->∃ L,ρb id=some L:=fun s id e=>by
     have:=h0.slot s
     generalize s5 fx st s=x at e this
     generalize fb s=u at this
     rcases e with e | e
     . cases this with
       | acc hL=>cases e; simp_all
       | a2W hL _ _ _ _ _=>cases e; simp_all
       | _=>cases e
     . cases this with
       | ref hL=>cases e; simp_all
       | yld hL=>cases e; simp_all
       | _=>cases e
    obtain ⟨new,ρ2,os,hF,hp,hk⟩:=S3 (fun s id e=>h0.a3T e) hbase hbA hρ h vs g a ⟨[],[],[],st.nx⟩ ρb [] ha (b67 hr) ⟨.nil,h0.mem.fr,fun _ _ h=>h,fun k s e=>(by cases e),rfl⟩ K hK
    have hnd:(os.filterMap id).Nodup:=hp.nodup_iff.2 (by simpa using V2 hd)
    refine ⟨new,ρ2,a,hv,hk,hF.sl,fun p hp=>?_,fun k j b s e=>(by rw [hF.gs] at e; cases e),?_,⟨hF.sub,h.tn.z,h.tn.ext⟩,h.g⟩
    . have r1:=h.fx p hp
      have r2:∃ v,Rep E.N E.T ρb Zb wb v p.2:=by
       rcases b5Y.1 hp with hp | hp
       . simp only [D4,b5C] at hp
         obtain ⟨s,_,rfl⟩:=hp
         exact ⟨_,h0.slot s⟩
       . exact ⟨_,h0.fx p hp⟩
      obtain ⟨v,r2⟩:=r2
      exact Rep.sub (Rep.lower r1 r2 hρ) hF.sub
    . refine Mem.a5X h.mem (fun p hp=>?_) hF.tg hnd hF.fr hF.sub
      obtain ⟨k,hk⟩:=b6Z hp
      have e1:holds E.N E.T ρ p.1 Z w p.2:=h.mem.holds (k:=st'.items.length+k) (by grind)
      have e2:holds E.N E.T ρb p.1 Zb wb p.2:=by
       have hin:p∈st.items++lkd:=by
        rcases b5Y.1 hp with hp | hp
        . exact b6V _ ((b7H.1 hp).1)
        . simp_all
       obtain ⟨k2,hk2⟩:=b6Z hin
       exact h0.mem.holds hk2
      obtain ⟨a1,a2⟩:=b4z e1 e2 hρ
      obtain ⟨b1,b2⟩:=P0 hF.sub a1
      simp_all
  simp_all
theorem e4b {its:a7 E.N} {i:Nat} {it:Item E.N} (h:lk its i=some it):∃ j:Nat,its[j]?=some (i,it):=by
 obtain ⟨j,hj,_⟩:=v6 h
 grind
def b74 (E:Env) (ρ:r9) (its:a7 E.N) (i:Nat):List Nat:=match lk its i with | some it=>u5 E.N ρ i it | none=>[]
theorem c1o {K:Nat} {args a':List E.SV} {i':a7 E.N} {S:PT E.N} {k:E.SV->a7 E.N->Nat->Prop} {ids:List Nat} {vs:List Value} (hd:distinct ids=true) (ha:a98 (a0r (E8 its ids) 0) args=some a') (hi:c2l its (a0r (E8 its ids) 0) 0 ids=some i') (hG:r6 E.P E.N E.T E.G K a' i' (2 * i'.length) S)
  (hv:S (fun s it n=>match c90 (a66 (E8 its ids) nx) s,b0r (a66 (E8 its ids) nx) it with
    | some s',some it'=>k s' (it'++n9 its ids) (nx+(n-(E8 its ids).length))
    | _,_=>False))
  (hm:Mem E C ρ Z w (its++lkd) nx) (hg:E.G.is Z w) (ha0:Rep E.N E.T ρ Z w (.tuple vs.toArray) (.tup args)) :
  A6 E.P K vs w (fun v w'=>∃ ρ' Z' s its' nx',Mem E C ρ' Z' w' (its'++lkd) nx'/\Tn ρ Z w ρ' Z' w'/\Rep E.N E.T ρ' Z' w' v s/\k s its' nx'):=by
 have hnd:=V2 hd
 generalize hnm:E8 its ids=nm at ha hi hv
 have hlen:nm.length=2 * ids.length:=by rw [<- hnm]; unfold E8; simp only [b3P,b6F]; omega
 obtain ⟨hil,hsel⟩:=c1t hi
 have hm2:Mem E C ρ Z w (within its ids++(n9 its ids++lkd)) nx:=hm.perm (by rw [<- b4L]; exact (a3f its ids).append_right lkd)
 -- the parts chosen
 have pick:∀ (p i:Nat),ids[p]?=some i->∃ it j,lk its i=some it/\(within its ids)[j]?=some (i,it):=fun p i hp=>by
  have hlt:p<i'.length:=by rw [hil]; exact B8 hp
  obtain ⟨i2,it,h1,h2,_⟩:=hsel p _ (b3T hlt)
  rw [hp] at h1; cases h1
  obtain ⟨j,hj⟩:=e4b h2
  have hmem:(i,it)∈within its ids:=b7H.2 ⟨b4S hj,List.elem_eq_true_of_mem (b4S hp)⟩
  obtain ⟨j2,hj2⟩:=b6Z hmem
  exact ⟨it,j2,h2,hj2⟩
 have holdsI:∀ (j:Nat) (i:Nat) (it:Item E.N),(within its ids)[j]?=some (i,it)->holds E.N E.T ρ i Z w it:=fun j i it hj=>hm2.holds (n8 (l2:=n9 its ids++lkd) hj)
 have named:∀ (j i:Nat),nm[j]?=some (some i)->∃ L,ρ i=some L:=fun j i hj=>by
  rw [<- hnm] at hj
  unfold E8 at hj
  by_cases hlt:j<ids.length
  . rw [b3Z (by simpa using hlt),b5S] at hj
    obtain ⟨i2,h1,h2⟩:=b3Y.1 hj
    cases h2
    obtain ⟨it,j2,_,hj2⟩:=pick j i h1
    exact (P7 (holdsI j2 i it hj2)).1
  . rw [b4A (by simpa using Nat.le_of_not_lt hlt),b5S] at hj
    obtain ⟨i2,h1,h2⟩:=b3Y.1 hj
    obtain ⟨it,j2,hlk,hj2⟩:=pick _ i2 h1
    unfold d5h at h2
    rw [hlk] at h2
    cases it with
    | ob kk f x=>cases h2; exact (P7 (holdsI j2 i2 _ hj2)).2 kk i x rfl
    | _=>cases h2
 let ρc:r9:=fun p=>match nm[p]? with | some (some i)=>ρ i | _=>none
 have hρc:∀ p i,nm[p]?=some (some i)->ρc p=ρ i:=fun p i h=>by grind
 have hf:a3v (a0r nm 0) ρ ρc:=fun i p h L hL=>by
  obtain ⟨_,h2⟩:=d1r h
  simp_all
 let B:List Nat:=ids.flatMap (b74 E ρ its)
 have hB:∀ b∈B,∃ (i j:Nat) (it:Item E.N),(within its ids)[j]?=some (i,it)/\b∈u5 E.N ρ i it:=fun b hb=>by
  obtain ⟨i,hi1,hb⟩:=c0B.1 hb
  obtain ⟨p,hp⟩:=b6Z hi1
  obtain ⟨it,j,hlk,hj⟩:=pick p i hp
  unfold b74 at hb
  grind
 have okW:∀ (j:Nat) (i:Nat) (it:Item E.N),(within its ids)[j]?=some (i,it)->(H2 E.N E.T ρ C.B0 i it).Ok C.B0 C.w0 Z w:=fun j i it hj=>hm2.sep.ok j _ (o5 (n8 (l2:=n9 its ids++lkd) hj))
 -- the parts under their own names
 have parts:∀ (p:Nat) (q:Nat×Item E.N),i'[p]?=some q->∃ i it j,ids[p]?=some i/\(within its ids)[j]?=some (i,it)/\holds E.N E.T ρc q.1 Z w q.2/\u5 E.N ρc q.1 q.2=u5 E.N ρ i it:=fun p q hq=>by
  obtain ⟨i,it,h1,h2,h3,h4⟩:=hsel p q hq
  obtain ⟨it2,j,hlk,hj⟩:=pick p i h1
  rw [h2] at hlk; cases hlk
  have hid:a3v (fun x=>if x=i then some q.1 else a0r nm 0 x) ρ ρc:=fun x y e L hL=>by
   simp only at e
   split at e
   . rename_i ex; cases e; subst ex
     have hn:nm[q.1]?=some (some x):=by
      rw [<- hnm]; unfold E8
      have:p<ids.length:=B8 h1
      rw [h4,b6J,b3Z (by simpa using this),b5S,h1]; rfl
     simp_all
   . exact hf x y e L hL
  have h3':c4d (a0r nm 0) it=some q.2:=h3
  have hh:=holdsI j i it hj
  -- names of cells
  have:holds E.N E.T ρc q.1 Z w q.2/\u5 E.N ρc q.1 q.2=u5 E.N ρ i it:=by
   obtain ⟨L,hL⟩:=(P7 hh).1
   have hq1:ρc q.1=some L:=by
    have:=hid i q.1 (by simp) L hL
    exact this
   cases it with
   | own Ty cells =>
    obtain ⟨ss',e1,e2⟩:=b3Y.1 (show (a5d (a0r nm 0) cells).map (fun vs=>Item.own Ty vs)=some q.2 from h3')
    rw [<- e2]
    obtain ⟨L',cs,hL',hbs,ho,hr⟩:=hh
    rw [hL] at hL'; cases hL'
    exact ⟨⟨L,cs,hq1,hbs,ho,a2e hf e1 hr⟩,by rw [A8 hL,A8 hq1]⟩
   | ac t l =>
    have e2:Item.ac t l=q.2:=b6E h3'
    rw [<- e2]
    obtain ⟨L',hL',r⟩:=hh
    rw [hL] at hL'; cases hL'
    exact ⟨⟨L,hq1,r⟩,by rw [u6 hL,u6 hq1]⟩
   | fz t l =>
    have e2:Item.fz t l=q.2:=b6E h3'
    rw [<- e2]
    obtain ⟨L',hL',r⟩:=hh
    rw [hL] at hL'; cases hL'
    exact ⟨⟨L,hq1,r⟩,rfl⟩
   | ob kk fid x =>
    obtain ⟨jf,e1,e2⟩:=b3Y.1 (show (a0r nm 0 fid).map (fun j=>Item.ob kk j x)=some q.2 from h3')
    rw [<- e2]
    obtain ⟨L',Lf,hL',hLf,r⟩:=hh
    rw [hL] at hL'; cases hL'
    have hLf':=hf _ _ e1 _ hLf
    exact ⟨⟨L,Lf,hq1,hLf',r⟩,by rw [D6 hLf,D6 hLf']⟩
   | rw t n cells =>
    obtain ⟨ss',e1,e2⟩:=b3Y.1 (show (a5d (a0r nm 0) cells).map (fun vs=>Item.rw t n vs)=some q.2 from h3')
    rw [<- e2]
    obtain ⟨L',F,hL',hn,hb,hA,hr,hrep⟩:=hh
    rw [hL] at hL'; cases hL'
    exact ⟨⟨L,F,hq1,hn,hb,hA,hr,a2e hf e1 hrep⟩,by rw [E7 hL,E7 hq1]⟩
  exact ⟨i,it,j,h1,hj,this.1,this.2⟩
 have hsep:Sep B w Z w (s6 E.N E.T ρc B i'):=by
  refine ⟨Ext.refl _ _,hm.sep.zlt,fun p t hp=>?_,fun p p2 t t2 hp hp2 hne b hb hb2=>?_⟩
  . obtain ⟨q,hq,rfl⟩:=B6 hp
    obtain ⟨i,it,j,h1,hj,h2,h3⟩:=parts p q hq
    have ok:=okW j i it hj
    have hF:∀ b,b∈u5 E.N ρc q.1 q.2->b∈u5 E.N ρ i it:=fun b hb=>by rw [<- h3]; exact hb
    refine ⟨h2,z7,fun b hb=>ok.lt b (hF b hb),fun b hb=>ok.a1X b (hF b hb),fun b hb=>.inl ?_,fun b hb=>hb⟩
    refine c0B.2 ⟨i,b4S h1,?_⟩
    obtain ⟨it2,j2,hlk,hj2⟩:=pick p i h1
    have hlk':lk its i=some it:=by
     obtain ⟨i3,it3,g1,g2,g3,g4⟩:=hsel p q hq
     rw [h1] at g1; cases g1
     obtain ⟨i5,it5,j5,k1,k2,_⟩:=parts p q hq
     rw [hlk]
     by_cases e:it2=it
     . rw [e]
     . exfalso
       have e1:=hm2.sep.apart j j2 _ _ (o5 (n8 (l2:=n9 its ids++lkd) hj)) (o5 (n8 (l2:=n9 its ids++lkd) hj2)) (fun ej=>by simp_all) b (hF b hb)
       have f1:u5 E.N ρ i it2=u5 E.N ρ i it:=by
        have:u5 E.N ρc q.1 q.2=u5 E.N ρ i it2:=by
         rw [g2] at hlk; cases hlk
         have hh:=holdsI j2 i it2 hj2
         obtain ⟨L,hL⟩:=(P7 hh).1
         have hn:nm[q.1]?=some (some i):=by
          rw [<- hnm]; unfold E8
          have:p<ids.length:=B8 h1
          rw [g4,b6J,b3Z (by simpa using this),b5S,h1]; rfl
         have hq1:ρc q.1=some L:=by rw [hρc _ _ hn]; exact hL
         cases it2 with
         | own Ty cells =>
          obtain ⟨ss',e1,e2⟩:=b3Y.1 (show (a5d (a0r nm 0) cells).map (fun vs=>Item.own Ty vs)=some q.2 from g3)
          rw [<- e2,A8 hL,A8 hq1]
         | ac t l =>
          have e2:Item.ac t l=q.2:=b6E g3
          rw [<- e2,u6 hL,u6 hq1]
         | fz t l =>
          have e2:Item.fz t l=q.2:=b6E g3
          rw [<- e2]; rfl
         | ob kk fid x =>
          obtain ⟨jf,e1,e2⟩:=b3Y.1 (show (a0r nm 0 fid).map (fun j=>Item.ob kk j x)=some q.2 from g3)
          obtain ⟨Lf,hLf⟩:=(P7 hh).2 kk fid x rfl
          have hLf':=hf _ _ e1 _ hLf
          rw [<- e2,D6 hLf,D6 hLf']
         | rw t n cells =>
          obtain ⟨ss',e1,e2⟩:=b3Y.1 (show (a5d (a0r nm 0) cells).map (fun vs=>Item.rw t n vs)=some q.2 from g3)
          rw [<- e2,E7 hL,E7 hq1]
        rw [<- this,h3]
       exact e1 (by show b∈u5 E.N ρ i it2; rw [f1]; exact hF b hb)
    unfold b74
    rw [hlk']
    exact hF b hb
  . obtain ⟨q,hq,rfl⟩:=B6 hp
    obtain ⟨q2,hq2,rfl⟩:=B6 hp2
    obtain ⟨i,it,j,h1,hj,_,h3⟩:=parts p q hq
    obtain ⟨i2,it2,j2,g1,gj,_,g3⟩:=parts p2 q2 hq2
    have hii:i≠i2:=fun e=>by
     subst e
     have hl1:=B8 h1
     have hl2:=B8 g1
     rw [b3T hl1] at h1
     rw [b3T hl2] at g1
     cases h1
     exact hne ((List.getElem_inj hnd).1 (b6E g1).symm)
    refine hm2.sep.apart j j2 _ _ (o5 (n8 (l2:=n9 its ids++lkd) hj)) (o5 (n8 (l2:=n9 its ids++lkd) gj)) (fun e=>by simp_all) b ?_ ?_
    . show b∈u5 E.N ρ i it; rw [<- h3]; exact hb
    . show b∈u5 E.N ρ i2 it2; rw [<- g3]; exact hb2
 have hnl:2 * i'.length=nm.length:=by rw [hlen,hil]
 have run:=hG _ hv ρc Z w vs B (fun i hi=>by
  grind) hsep hg (b4a hf ha ha0)
 refine run.mono fun v w' ⟨ρ',Z',s,it,n',hs',hfr',hρ',hz1,hz2,hr',hk⟩=>?_
 split at hk
 . rename_i s' it' h1 h2
   let ρ2:r9:=fun i=>if i<nx then ρ i else ρ' (nm.length+(i-nx))
   have old:∀ i L,ρ i=some L->ρ2 i=some L:=fun i L h=>by
    have:i<nx:=by
     rcases b5N i nx with h1 | h1
     . exact h1
     . rw [hm.fr i h1] at h; cases h
    grind
   have hf2:a3v (a66 nm nx) ρ' ρ2:=fun j i h L hL=>by
    unfold a66 at h
    grind
   obtain ⟨itl,itp⟩:=b43 h2
   have x:=hs'.ext
   have w0le:=hm.sep.ext.size
   have Bold:∀ b∈B,b<w.heap.size/\¬ Z b/\(b∈C.B0 ∨ C.w0.heap.size<=b):=fun b hb=>by
    obtain ⟨i,j,it,hj,hb⟩:=hB b hb
    have ok:=okW j i it hj
    exact ⟨ok.lt b hb,ok.a1X b hb,ok.org b hb⟩
   -- what is new,or was turned
   have newF:∀ {p:Nat} {q:Nat×Item E.N},it'[p]?=some q->∃ q0,it[p]?=some q0/\holds E.N E.T ρ2 q.1 Z' w' q.2/\u5 E.N ρ2 q.1 q.2=u5 E.N ρ' q0.1 q0.2/\∀ b∈u5 E.N ρ2 q.1 q.2,b<w'.heap.size/\¬ Z' b/\(b∈B ∨ w.heap.size<=b):=fun {p q} hq=>by
    obtain ⟨q0,h3,h4,h5⟩:=itp p q hq
    have ok:=hs'.ok p _ (o5 h3)
    obtain ⟨a1,a2⟩:=d4q (T:=E.T) (Z:=Z') (w:=w') hf2 h4 h5 ok.holds
    refine ⟨q0,h3,a1,a2,fun b hb=>?_⟩
    rw [a2] at hb
    exact ⟨ok.lt b hb,ok.a1X b hb,ok.org b hb⟩
   -- what lay beside
   have rest:∀ {p:Nat} {q:Nat×Item E.N},(n9 its ids++lkd)[p]?=some q->holds E.N E.T ρ2 q.1 Z' w' q.2/\u5 E.N ρ2 q.1 q.2=u5 E.N ρ q.1 q.2/\∀ b∈u5 E.N ρ q.1 q.2,b<w.heap.size/\¬ Z' b/\(b∈C.B0 ∨ C.w0.heap.size<=b)/\b ∉ B:=fun {p q} hq=>by
    have hq2:(within its ids++(n9 its ids++lkd))[(within its ids).length+p]?=some q:=by rw [b4A (by omega)]; simpa using hq
    have ok:=hm2.sep.ok _ _ (o5 hq2)
    have nB:∀ b∈u5 E.N ρ q.1 q.2,b ∉ B:=fun b hb hbB=>by
     obtain ⟨i,j,it,hj,hb2⟩:=hB b hbB
     have hjl:=B8 hj
     exact hm2.sep.apart _ j _ _ (o5 hq2) (o5 (n8 (l2:=n9 its ids++lkd) hj)) (by omega) b hb hb2
    have h1:holds E.N E.T ρ q.1 Z' w' q.2:=z7 (B0:=C.B0) Z Z' B w w' (hm2.holds hq2) x (fun b hb h=>by
     rcases h with h | h
     . exact absurd hb (nB b h)
     . exact absurd h (Bold b hb).2.1) hz1
    obtain ⟨a1,a2⟩:=P0 old h1
    refine ⟨a1,a2,fun b hb=>⟨ok.lt b hb,fun hz=>?_,ok.org b hb,nB b hb⟩⟩
    rcases hz2 b hz with h | h | h
    . exact ok.a1X b hb h
    . exact nB b hb h
    . have:b<w.heap.size:=ok.lt b hb
      omega
   refine ⟨ρ2,Z',s',it'++n9 its ids,nx+(n'-nm.length),⟨⟨hm.sep.ext.trans x (fun b hb=>.inl hb) (fun b hb=>(Bold b hb).2.2),hs'.zlt,fun p t hp=>?_,fun p p2 t t2 hp hp2 hne b hb hb2=>?_⟩,fun i hi=>?_,fun i L e=>old i L (hm.ge i L e),fun b h=>hz1 b (hm.zge b h),fun b h=>?_⟩,⟨old,fun b h _=>hz1 b h,B,x,fun b hb hz=>absurd hz (Bold b hb).2.1⟩,d1p hf2 h1 hr',hk⟩
   . rw [b4L] at hp
     obtain ⟨q,hq,rfl⟩:=B6 hp
     by_cases hlt:p<it'.length
     . rw [b3Z hlt] at hq
       obtain ⟨q0,_,h3,h4,h5⟩:=newF hq
       refine ⟨h3,z7,fun b hb=>(h5 b hb).1,fun b hb=>(h5 b hb).2.1,fun b hb=>?_,fun b hb=>hb⟩
       rcases (h5 b hb).2.2 with h | h
       . exact (Bold b h).2.2
       omega
     . rw [b4A (by omega)] at hq
       obtain ⟨h3,h4,h5⟩:=rest hq
       have hF:∀ b,b∈u5 E.N ρ2 q.1 q.2->b∈u5 E.N ρ q.1 q.2:=fun b hb=>by rw [<- h4]; exact hb
       exact ⟨h3,z7,fun b hb=>by have:=(h5 b (hF b hb)).1; have:=x.size; omega,fun b hb=>(h5 b (hF b hb)).2.1,fun b hb=>(h5 b (hF b hb)).2.2.1,fun b hb=>hb⟩
   . rw [b4L] at hp hp2
     obtain ⟨q,hq,rfl⟩:=B6 hp
     obtain ⟨q2,hq2,rfl⟩:=B6 hp2
     have hb:b∈u5 E.N ρ2 q.1 q.2:=hb
     have hb2:b∈u5 E.N ρ2 q2.1 q2.2:=hb2
     have cross:∀ {u v:Nat×Item E.N} {a c:Nat},it'[a]?=some u->(n9 its ids++lkd)[c]?=some v->b∈u5 E.N ρ2 u.1 u.2->b∈u5 E.N ρ2 v.1 v.2->False:=fun {u v a c} hu hv h1 h2=>by
      grind
     by_cases e1:p<it'.length
     . rw [b3Z e1] at hq
       by_cases e2:p2<it'.length
       . rw [b3Z e2] at hq2
         obtain ⟨u,hu,_,hu2,_⟩:=newF hq
         obtain ⟨u2,hv,_,hv2,_⟩:=newF hq2
         rw [hu2] at hb
         rw [hv2] at hb2
         exact hs'.apart p p2 _ _ (o5 hu) (o5 hv) hne b hb hb2
       grind
     . rw [b4A (by omega)] at hq
       by_cases e2:p2<it'.length
       . rw [b3Z e2] at hq2
         exact cross hq2 hq hb2 hb
       . rw [b4A (by omega)] at hq2
         rw [(rest hq).2.1] at hb
         rw [(rest hq2).2.1] at hb2
         have g1:(within its ids++(n9 its ids++lkd))[(within its ids).length+(p-it'.length)]?=some q:=by rw [b4A (by omega)]; simpa using hq
         have g2:(within its ids++(n9 its ids++lkd))[(within its ids).length+(p2-it'.length)]?=some q2:=by rw [b4A (by omega)]; simpa using hq2
         exact hm2.sep.apart _ _ _ _ (o5 g1) (o5 g2) (by omega) b hb hb2
   . grind
   . rcases hz2 b h with h | h | h
     . exact hm.zle b h
     . exact .inr (Bold b h).2.2
     . exact .inr (.inr (by omega))
 . exact hk.elim
theorem a0c {nm:List Nat} {α:Type} {P:α->Nat->a7 E.N->List E.SV->Prop}:∀ (ks:List TK) (nx:Nat) (its:a7 E.N) (acc:List E.SV) (K:Nat->a7 E.N->List E.SV->α),(∀ nx its cs,P (K nx its cs) nx its cs)->a6b E nm ks nx its acc (b1c E nm ks nx its acc K) P
 | [],nx,its,acc,K,h=>h nx its acc
 | .v k::r,nx,its,acc,K,h=>fun x=>a0c r _ _ _ K h
 | .to j::r,nx,its,acc,K,h=>a0c r _ _ _ K h
 | .a0U::r,nx,its,acc,K,h=>a0c r _ _ _ K h
 | .any::r,nx,its,acc,K,h=>a0c r _ _ _ K h
theorem a5x {nm:List Nat} {α:Type} {P:α->Nat->a7 E.N->Prop}:∀ (ps:List TP) (i nx:Nat) (its:a7 E.N) (K:Nat->a7 E.N->α),(∀ nx its,P (K nx its) nx its)->b19 E nm ps i nx its (c29 E nm ps i nx its K) P
 | [],i,nx,its,K,h=>h nx its
 | .own _ T ks::r,i,nx,its,K,h=>a0c ks nx its [] _ (fun nx1 its1 cs=>a5x r (i+1) nx1 _ K h)
 | .ob _ k::r,i,nx,its,K,h=>fun x=>a5x r (i+1) _ _ K h
theorem a9g {α:Type} {P:α->E.St->Prop}:∀ (vs:List LV) (new:E.St) (K:E.St->α),a6m vs=true->(∀ new',P (K new') new')->S6 E fx st vs (c85 E fx st vs new K) new P
 | [],new,K,_,h=>h new
 | .slot s k::r,new,K,ho,h=>fun x=>a9g r _ K ho h
 | .tree ss ps::r,new,K,ho,h=>a5x ps 0 _ _ _ (fun nx its=>a9g r _ K ho h)
 | .own _ _::_,_,_,ho,_=>by cases ho
 | .ob _ _::_,_,_,ho,_=>by cases ho
 | .cont _ _::_,_,_,ho,_=>by cases ho
 | .chain _ _ _ _::_,_,_,ho,_=>by cases ho
 | .rows _ _ _ _::_,_,_,ho,_=>by cases ho
 | .alt::_,_,_,ho,_=>by cases ho
 | .unr _::_,_,_,ho,_=>by cases ho
theorem a78:∀ {ss:List (List LV)} {new:E.St},Rel E C [] lkd st ρ Z f w->b4v E st ss=some new->∃ ρ2,Mem E C ρ2 Z w (new.items++lkd) new.nx/\Tn ρ Z w ρ2 Z w/\∀ k,Rep E.N E.T ρ2 Z w (f k) (s5 [] new k)
 | [],_,_,h=>by cases h
 | vs::r,new,hr,h=>by
  unfold b4v at h
  cases hb:(a6m vs && c3e E [] st [] (inn st (D5 E [] st vs)) vs) with
  | false=>rw [hb,b4X] at h; exact a78 hr h
  | true =>
   rw [hb,b4G] at h
   simp only [b3R] at hb
   split at h
   . rename_i n0 hn0
     simp only [b3N] at h
     have hv:rbP E [] st (D4 [] st []++[]) (inn st (D5 E [] st vs)) vs (c85 E [] st vs ⟨[],[],[],st.nx⟩ id) (fun a=>a=n0):=by
      unfold rbP
      rw [show D4 ([]:o7 E.N) st []++[]=[] from rfl,hb.2,b4G,hn0]
     obtain ⟨n1,ρ2,a,e1,e2,h3⟩:=a8z (K:=fun a n=>a=n) hr (hr.enter [] (D5 E [] st vs)) hv (a9g vs _ id hb.1 fun _=>rfl)
     subst e1; subst e2
     have hm:=Mem.upC hr.mem h3.mem
     subst h
     refine ⟨ρ2,by simp_all,h3.tn,fun k=>h3.slot k⟩
   . exact a78 hr h
theorem a5P.a5N {cs:List Value} {ss:List E.SV} (hl:cs.length=ss.length) (h:∀ (i:Nat) (u:Value) (s:E.SV),cs[i]?=some u->ss[i]?=some s->Rep E.N E.T ρ Z w u s):Rep E.N E.T ρ Z w (.tuple cs.toArray) (.tup ss):=by
 induction ss generalizing cs with
 | nil =>
  have:cs=[]:=b4O (by omega)
  subst this; exact .a1O
 | cons s ss ih =>
  cases cs with
  | nil=>simp at hl
  | cons c cs=>exact .a1F (h 0 c s rfl rfl) (ih (by simp_all) fun i u s hu hs=>h (i+1) u s hu hs)
theorem a5P.get {cs:List Value} {ss:List E.SV} (h:Rep E.N E.T ρ Z w (.tuple cs.toArray) (.tup ss)):cs.length=ss.length/\∀ (i:Nat) (u:Value) (s:E.SV),cs[i]?=some u->ss[i]?=some s->Rep E.N E.T ρ Z w u s:=by
 induction ss generalizing cs with
 | nil =>
  generalize e:Value.tuple cs.toArray=u at h
  cases h with | a1O=>simp_all
 | cons s ss ih =>
  obtain ⟨v,r,rfl,h1,h2⟩:=Rep.a0H h
  grind
theorem a1r {st:E.St}:∀ (n i k:Nat) (s:E.SV),(Q6 E st n i)[k]?=some s->s=s5 [] st (i+k)/\k<n
 | 0,i,k,s,h=>by simp [Q6] at h
 | n+1,i,k,s,h=>by
  cases k with
  | zero=>simp [Q6] at h; simp_all
  | succ k =>
   obtain ⟨a,b⟩:=a1r n (i+1) k s (by simpa [Q6] using h)
   grind
theorem a1p {st:E.St}:∀ (n i:Nat),(Q6 E st n i).length=n
 | 0,_=>rfl
 | n+1,i=>by simp [Q6,a1p n (i+1)]
theorem b2x:∀ {vs:List Value} {args:List E.SV} {n:Nat},Rep E.N E.T ρ Z w (.tuple vs.toArray) (.tup args)->∀ k s,lk (number n args) (n+k)=some s->Rep E.N E.T ρ Z w (nth vs k) s
 | vs,[],n,_,k,s,e=>by cases e
 | vs,a::args,n,h,k,s,e=>by
  obtain ⟨v,r,rfl,h1,h2⟩:=Rep.a0H h
  have e:(bif Nat.beq n (n+k) then some a else lk (number (n+1) args) (n+k))=some s:=e
  cases k with
  | zero=>rw [b5Q,b7Y,b4G] at e; cases e; exact h1
  | succ k =>
   rw [a1s (by omega),b4X] at e
   exact b2x (n:=n+1) h2 k s (by grind)
theorem a81:∀ {vs:List Value} {args:List E.SV},Rep E.N E.T ρ Z w (.tuple vs.toArray) (.tup args)->vs.length=args.length
 | vs,[],h=>by
  generalize e:Value.tuple vs.toArray=u at h
  cases h with
  | a1O=>simp_all
 | vs,a::args,h=>by
  obtain ⟨v,r,rfl,h1,h2⟩:=Rep.a0H h
  simp [a81 h2]
theorem c1v:∀ {vs:List Value} {k:Nat} {u:Value},vs[k]?=some u->nth vs k=u
 | [],k,u,h=>by simp at h
 | v::vs,0,u,h=>by simp at h; exact h
 | v::vs,k+1,u,h=>c1v (vs:=vs) (by simpa using h)
theorem d4m {vs:List Value} {args:List E.SV} {i:Nat} {v':E.SV} (h:Rep E.N E.T ρ Z w (.tuple vs.toArray) (.tup args)) (hv:∀ u,vs[i]?=some u->Rep E.N E.T ρ Z w u v'):Rep E.N E.T ρ Z w (.tuple vs.toArray) (.tup (args.set i v')):=by
 obtain ⟨h1,h2⟩:=a5P.get h
 refine a5P.a5N (by simp_all) fun k u s hu hs=>?_
 grind
theorem b4t:∀ {fz:List Nat} {args a':List E.SV} {its its':a7 E.N} {Z:Nat->Prop} {vs:List Value},Mem E C ρ Z w (its++lkd) nx->b49 its fz args=some (a',its')->Rep E.N E.T ρ Z w (.tuple vs.toArray) (.tup args)->∃ Z',Mem E C ρ Z' w (its'++lkd) nx/\Tn ρ Z w ρ Z' w/\Rep E.N E.T ρ Z' w (.tuple vs.toArray) (.tup a')
 | [],args,a',its,its',Z,vs,hm,h,ha=>by
  simp only [b49,b3N,b4P] at h
  obtain ⟨rfl,rfl⟩:=h
  exact ⟨Z,hm,Tn.refl _ _ _,ha⟩
 | i::r,args,a',its,its',Z,vs,hm,h,ha=>by
  unfold b49 at h
  split at h
  . rename_i v hv
    split at h
    . rename_i v' its1 h1
      obtain ⟨Z1,m1,t1,e1⟩:=a6q hm h1
      have ha1:Rep E.N E.T ρ Z1 w (.tuple vs.toArray) (.tup (args.set i v')):=d4m (t1.rep ha) fun u hu=>e1 u ((a5P.get ha).2 i u v hu hv)
      obtain ⟨Z2,m2,t2,a2⟩:=b4t m1 h ha1
      exact ⟨Z2,m2,t1.trans t2,a2⟩
    . cases h
  . cases h
theorem b14 {o:FC E.N} {args a':List E.SV} {its':a7 E.N} {m:Nat} {vs:List Value} (hg:E.G.is Z w) (hm:Mem E C ρ Z w (its++lkd) nx) (h:b3l o args its nx=some (a',its',m)) (ha:Rep E.N E.T ρ Z w (.tuple vs.toArray) (.tup args)) :
  ∃ ρ' Z',Mem E C ρ' Z' w (its'++lkd) m/\Tn ρ Z w ρ' Z' w/\Rep E.N E.T ρ' Z' w (.tuple vs.toArray) (.tup a'):=by
 unfold b3l at h
 split at h
 . rename_i a i hf
   obtain ⟨Z1,m1,t1,a1⟩:=b4t hm hf ha
   cases hb:o.ss.isEmpty with
   | true =>
    grind
   | false =>
    rw [hb,b4X] at h
    split at h
    . rename_i new hn
      simp only [b3N,b4P] at h
      obtain ⟨rfl,rfl,rfl⟩:=h
      have h0:Rel E (C.at ρ Z1 w) [] lkd ⟨number 0 a,[],i,nx⟩ ρ Z1 (nth vs) w:=⟨fun k s e=>b2x (n:=0) a1 k s (by simpa using e),fun p hp=>(by cases hp),fun k j b s e=>(by cases e),m1.down,Tn.refl _ _ _,a0w.turn hg t1⟩
      obtain ⟨ρ2,m2,t2,r2⟩:=a78 h0 hn
      refine ⟨ρ2,Z1,Mem.upC m1 m2,t1.trans t2,a5P.a5N (by rw [a81 a1,a1p]) fun k u s hu hs=>?_⟩
      obtain ⟨e,_⟩:=a1r _ 0 k s hs
      rw [b6J] at e
      have:=r2 k
      rw [c1v hu] at this
      simp_all
    . cases h
 . cases h
theorem c8m (hE:l7 E) {K:Nat} {o:FC E.N} {args:List E.SV} {s:S1 E.N} {vs:List Value} (hK:E.fnc K=some o) (h:c0j o args its nx=some s) (ho:n6 s.ob) (hm:Mem E C ρ Z w (its++lkd) nx) (hg:E.G.is Z w) (ha:Rep E.N E.T ρ Z w (.tuple vs.toArray) (.tup args)) :
  A6 E.P K vs w (fun v w'=>∃ ρ' Z',Mem E C ρ' Z' w' (s.items++lkd) s.nx/\Tn ρ Z w ρ' Z' w'/\Rep E.N E.T ρ' Z' w' v s.v/\n6 s.hy):=by
 unfold c0j at h
 split at h
 . rename_i a i m hA
   obtain ⟨ρ1,Z1,m1,t1,a1⟩:=b14 hg hm hA ha
   generalize reach i 60 (a.flatMap a8w) []=ids at h
   unfold d7d at h
   cases hd:distinct ids with
   | false=>simp_all
   | true =>
    rw [hd,b4G] at h
    split at h
    . rename_i a' i' h1 h2
      split at h
      . rename_i r hr
        split at h
        . rename_i v it h3 h4
          simp only [b3N] at h
          subst h
          have hG:=hE.fnc K o a' i' r hK hr ho
          refine (c1o (k:=fun sv it' n=>sv=v/\it'=it++n9 i ids/\n=m+(r.n-(E8 i ids).length)/\n6 r.hy) hd h1 h2 hG (fun hy=>?_) m1 (a0w.turn hg t1) a1).mono fun v' w' ⟨ρ',Z',sv,it',n',q1,q2,q3,q4⟩=>?_
          . simp_all
          . obtain ⟨rfl,rfl,rfl,hy⟩:=q4
            exact ⟨ρ',Z',q1,t1.trans q2,q3,hy⟩
        . cases h
      . cases h
    . cases h
 . cases h
end
end Go.Rx
end
section
namespace Go.Rx
open Go Go.Wk Go.Wl
def N7 (E:Env) (inl:Inl E):Prop :=
 ∀ (K:Nat) (args:List E.SV) (its lkd:a7 E.N) (nx:Nat) (k:E.SV->a7 E.N->Nat->Prop),inl K args its lkd nx k->(E.inl K).isSome=true /\
  ∀ (C:Ctx) (ρ:r9) (Z:Nat->Prop) (w:World) (vs:List Value),Mem E C ρ Z w (its++lkd) nx->E.G.is Z w->Rep E.N E.T ρ Z w (.tuple vs.toArray) (.tup args) ->
   A6 E.P K vs w (fun v w'=>∃ ρ' Z' s its' nx',Mem E C ρ' Z' w' (its'++lkd) nx'/\Tn ρ Z w ρ' Z' w'/\Rep E.N E.T ρ' Z' w' v s/\k s its' nx')
section
variable {E:Env} {C:Ctx} {n:Nat} {ops:List Oper} {Q:Exit->Fr->World->Prop} {rest:List Oper} {f:Fr} {w w':World}
variable {ty T T':TypeId} {pos:String} {after:Array Edge} {x y z:Operand} {a b:Int} {ρ ρ':r9} {Z Z':Nat->Prop} {its its' lkd:a7 E.N} {nx:Nat} {s:S1 E.N}
variable {fx:o7 E.N} {st:E.St} {inl:Inl E}
theorem Mem.a7R (hm:Mem E C ρ Z w its nx) (x:Ext [] w w'):Mem E C ρ Z w' its nx/\Tn ρ Z w ρ Z w':=by
 have:=hm.join (new:=[]) (ρ':=ρ) (Z':=Z) (nx':=nx) (fun _ _ h=>h) hm.fr (fun _ h=>h) (fun _ h=>.inl h) ⟨x,fun b hb=>by have:=hm.sep.zlt b hb; have:=x.size; omega,fun k t h=>by simp [s6] at h,fun j k s t h=>by simp [s6] at h⟩
 exact this
theorem Rep.bare {v:Value} {s:E.SV} (h:Rep E.N E.T (fun _=>none) (fun _=>False) w v s):Rep E.N E.T ρ Z w v s:=h.a1L (Ext.refl [] w) (fun _ h=>by cases h) (fun _ h _=>h.elim) (fun _ _ h=>by cases h)
abbrev KR (E:Env) (C:Ctx) (m:Bool) (n:Nat) (ops:List Oper) (Q:Exit->Fr->World->Prop) (rest:List Oper) (fx:o7 E.N) (lkd:a7 E.N) (f:Fr) (d:Option Nat) (k:E.St->Prop):Prop :=
 ∀ st' ρ' Z' v w',Rel E C fx lkd st' ρ' Z' (M0 f d v) w'->k st'->WL E.P m n ops Q rest (M0 f d v) w'
theorem a0a {d:Option Nat} (h:free n fx st d=true):∀ d',d=some d'->Nat.blt d' n=true:=fun d' e=>by subst e; exact (G6 h).1
theorem b4x (hE:l7 E) {K:Nat} {Cf:List E.SV->Nat->Option (CR E.N)} {r:CR E.N} {args:List E.SV} {vs:List Value} (hm:Mem E C ρ Z w its nx) (hc:E.con K=some Cf) (hl:E.a1Y K=true) (hr:Cf (args.map (a0v its)) nx=some r) (hi:r.its.isEmpty=true) (hp:(args.map (a0v its)).all H9=true) (ho:n6 r.ob) (hg:E.G.is Z w)
  (hv:Rep E.N E.T ρ Z w (.tuple vs.toArray) (.tup args)):A6 E.P K vs w (fun v w'=>Ext [] w w'/\Rep E.N E.T (fun _=>none) (fun _=>False) w' v r.r/\n6 r.hy):=by
 have h1:=a6n (F:=[]) hm (fun _ h=>by cases h) (fun _ _ _ _ _ _ h=>by cases h) hv
 exact hE.a1Y K Cf _ _ r hc hl hr (List.isEmpty_iff.1 hi) ho (seen Z w []) w vs (fun b hb=>hb.1) (E.G.a1L hg (Ext.refl [] w) (fun _ h=>by cases h) (fun b hz hb=>⟨hb,fun h=>by cases h⟩)) (K5 hp h1 _)
theorem b8j (hE:l7 E) {K:Nat} {args:List E.SV} {vs:List Value} {a:Q1 E.N} (h:Rel E C fx lkd st ρ Z f w) (hs:b9b lkd st K args=some a) (ho:n6 a.ob)
  (hv:Rep E.N E.T ρ Z w (.tuple vs.toArray) (.tup args)):(∀ ars w,(callFunc K ars).run E.P w=.ok (.enter K ars) w)/\A6 E.P K vs w (fun v w'=>Ext [] w w'/\Rep E.N E.T (fun _=>none) (fun _=>False) w' v a.v/\n6 a.hy):=by
 have roc:(match E.roc K with | some C=>C args (st.items++lkd) | none=>none)=some a->(∀ ars w,(callFunc K ars).run E.P w=.ok (.enter K ars) w)/\A6 E.P K vs w (fun v w'=>Ext [] w w'/\Rep E.N E.T (fun _=>none) (fun _=>False) w' v a.v/\n6 a.hy):=fun hs=>by
  split at hs
  . rename_i Cf hroc
    exact ⟨hE.a3N K (by simp_all),hE.roc K Cf args _ a hroc hs ho ρ Z w vs h.a3U (fun i x hi=>by
     obtain ⟨j,hj,_⟩:=v6 hi
     exact h.mem.holds hj) hv⟩
  . cases hs
 unfold b9b at hs
 split at hs
 . rename_i a0 hl0
   simp only [b3N] at hs
   subst hs
   unfold c7u at hl0
   cases hl:E.a1Y K with
   | true =>
    rw [hl,b4G] at hl0
    split at hl0
    . rename_i Cf hcon
      split at hl0
      . rename_i r hr
        have ⟨hb2,ho3⟩:=j7 hl0
        simp only [b3N] at ho3; subst ho3
        simp only [b3R] at hb2
        exact ⟨hE.call K (by simp_all),b4x hE h.mem hcon hl hr hb2.1 hb2.2 ho h.a3U hv⟩
      . cases hl0
    . cases hl0
   | false=>simp_all
 grind
theorem c7z {k fid id:Nat} {xx x':E.N.O k} {L Lf:Loc} {F':List Nat} {w':World} (hm:Mem E C ρ Z w (st.items++lkd) st.nx) (hi:lk st.items id=some (.ob k fid xx)) (hL:ρ id=some L) (hLf:ρ fid=some Lf)
  (hob':((E.N.oj k).ob L.b).is Z w' x' F') (x:Ext Lf.bs w w') (hF':∀ b∈F',b∈Lf.bs ∨ w.heap.size<=b) :
  ∃ ρ',Mem E C ρ' Z w' (a1w st.items id (.ob k st.nx x')++lkd) (st.nx+1)/\Tn ρ Z w ρ' Z w':=by
 obtain ⟨j,hj,hu,_⟩:=v6 hi
 have hjg:=n8 (l2:=lkd) hj
 have hF:(H2 E.N E.T ρ C.B0 id (.ob k fid xx)).F=Lf.bs:=by show u5 E.N ρ id (.ob k fid xx)=_; exact D6 hLf
 have lt':=((E.N.oj k).ob L.b).lt hob'
 have hs1:=Wl.Sep.upd hm.tn (j+1) (t:=H2 E.N E.T ρ C.B0 id (.ob k fid xx)) (t':=⟨F',C.B0,fun Z w=>((E.N.oj k).ob L.b).is Z w x' F'⟩) (by rw [b4B]; exact o5 hjg) (by simp_all) hob' (fun Z1 Z2 B w1 w2 h1 x1 hB hz1=>((E.N.oj k).ob L.b).a1L Z1 Z2 B w1 w2 h1 x1 hB hz1) (fun b hb=>⟨by simp_all,lt' b hb⟩) rfl
 have hjt:j<(s6 E.N E.T ρ C.B0 (st.items++lkd)).length:=by simpa [s6] using B8 hjg
 have hρ:=z6 (L:=⟨0,none,0,0,F'⟩) (hm.fr st.nx (b4H _))
 have t2:=a19 (Z:=Z) (w:=w) (ρ:=ρ) (ρ':=C1 ρ st.nx ⟨0,none,0,0,F'⟩) (k:=0) hs1 (by simp) hρ
 have hs2:Sep C.B0 C.w0 Z w' ((s6 E.N E.T ρ C.B0 (st.items++lkd)).set j ⟨F',C.B0,fun Z w=>((E.N.oj k).ob L.b).is Z w x' F'⟩):=a45 (u:=tnI Z w) (by simp_all)
 have m1:Mem E C (C1 ρ st.nx ⟨0,none,0,0,F'⟩) Z w' ((st.items++lkd).set j (id,.ob k st.nx x')) (st.nx+1):=by
  refine ⟨Sep.conv hs2 (by simp [s6]) fun k' s s' hk hk'=>?_,fun i hi=>by unfold C1; rw [if_neg (by omega)]; exact hm.fr i (by omega),fun i L' e=>hρ _ _ (hm.ge i L' e),hm.zge,hm.zle⟩
  obtain ⟨p',hp',rfl⟩:=B6 hk'
  by_cases e:k'=j
  . subst e
    rw [b4Z hjt] at hk
    rw [b4Z (B8 hjg)] at hp'
    cases hk; cases hp'
    exact ⟨⟨L,_,hρ _ _ hL,k7,hob'⟩,z7,fun b hb=>by
     have hb:b∈u5 E.N (C1 ρ st.nx ⟨0,none,0,0,F'⟩) id (.ob k st.nx x'):=hb
     rw [D6 k7] at hb; exact hb,rfl⟩
  . rw [b5H (b6D e)] at hk hp'
    obtain ⟨p,hp,rfl⟩:=B6 hk
    rw [hp] at hp'; cases hp'
    exact a9d hρ (hs2.at k' (t:=H2 E.N E.T ρ C.B0 p'.1 p'.2) (by grind))
 grind
theorem b1b (hE:l7 E) (hI:N7 E inl) {ch:List (Nat×Bool)} {d:Option Nat} {c:Call} {k:E.St->Prop} (h:Rel E C fx lkd st ρ Z f w) (hG:a1c f ch) (hf:free n fx st d=true) (hv:a7m inl fx lkd st ch d c k) (K:KR E C false n ops Q rest fx lkd f d k) :
  WL E.P false n ops Q (⟨d,.call c,ty,pos,after,none⟩::rest) f w:=by
 unfold a7m at hv
 split at hv
 . split at hv
   . rename_i id args o hcal hyl
     obtain ⟨z,xs,Ts,L,rfl,hz,hL,hargs⟩:=b8z (fun o=>h.ev hG o) hcal
     have hn:=a0a hf
     unfold d6x at hv
     cases hb:(d.isSome && (args.map (a0v (st.items++lkd))).all H9) with
     | false=>grind
     | true =>
      rw [hb,b4G] at hv
      rw [b3R] at hb
      obtain ⟨hd0,hb⟩:=hb
      split at hv
      . rename_i k' fid xx hi
        split at hv
        . rename_i hk
          obtain ⟨ok0,oC⟩:=o
          simp only at hk
          subst hk
          split at hv
          . rename_i r hr
            obtain ⟨ho,hv⟩:=R2 hv
            cases d with
            | none=>cases hd0
            | some d =>
             obtain ⟨j,hj,hu,_⟩:=v6 hi
             have hjg:=n8 (l2:=lkd) hj
             obtain ⟨L',Lf,hL',hLf,hob⟩:=h.mem.holds hjg
             have hL':ρ id=some L':=hL'
             rw [hL] at hL'; cases hL'
             have okj:=h.mem.sep.ok j _ (o5 hjg)
             have hF:(H2 E.N E.T ρ C.B0 id (.ob k' fid xx)).F=Lf.bs:=by show u5 E.N ρ id (.ob k' fid xx)=_; exact D6 hLf
             have hA:∀ id2 t l,lk (st.items++lkd) id2=some (.ac t l)->∀ b∈u5 E.N ρ id2 (.ac t l),b ∉ Lf.bs:=fun id2 t l hi2 b hb hb'=>by
              obtain ⟨j2,hj2,_⟩:=v6 hi2
              have hne:j2≠j:=fun e=>by simp_all
              exact h.mem.sep.apart j2 j _ _ (o5 hj2) (o5 hjg) hne b hb (by simp_all)
             have hlv:=K5 (ρ':=fun _=>none) hb (a6n (F:=Lf.bs) h.mem (fun b hb hz=>okj.a1X b (by simp_all) hz) hA hargs)
             have run:=hE.yl _ xx _ r hyl hr ho Z (seen Z w Lf.bs) w _ L.b Lf.bs h.mem.sep.zlt (fun b hb=>hb.1) (fun b hb=>⟨okj.a1X b (by simp_all),fun hs=>hs.2 hb⟩) hob (E.G.a1L h.a3U (Ext.refl [] w) (fun _ h=>by cases h) (fun b hz hb=>⟨hb,fun hm=>okj.a1X b (by simp_all) hz⟩)) hlv
             refine d1v hz run (hn d rfl) fun v w' ⟨F',hob',⟨x,hF'⟩,hrep,hy⟩=>?_
             obtain ⟨ρ1,m1,t2⟩:=c7z h.mem hi hL hLf hob' x hF'
             exact K _ _ _ _ _ (h.put hf t2 m1 (Rep.bare hrep)) (T0 hv hy)
          simp_all
        simp_all
      simp_all
   simp_all
 . rename_i K0 args hcal
   obtain ⟨z,xs,Ts,cap,rfl,hz,hargs⟩:=a2n (fun o=>h.ev hG o) hcal
   have hn:=a0a hf
   split at hv
   . rename_i Cf hcon
     have hK:=hE.call K0 (by simp_all)
     cases hl:E.a1Y K0 with
     | true =>
      rw [hl,b4G] at hv
      unfold d0g at hv
      rw [hcon] at hv
      simp only at hv
      split at hv
      . rename_i r hr
        cases hb:(r.its.isEmpty && (args.map (a0v (st.items++lkd))).all H9) with
        | false=>grind
        | true =>
         rw [hb,b4G] at hv
         simp only [b3R] at hb
         obtain ⟨ho,hv⟩:=R2 hv
         refine T7 hz hK (b4x hE h.mem hcon hl hr hb.1 hb.2 ho h.a3U hargs) hn fun v w' ⟨x,hr',hy⟩=>?_
         obtain ⟨m1,t1⟩:=h.mem.a7R x
         exact K _ _ _ _ _ (h.put hf t1 m1 (Rep.bare hr')) (T0 hv hy)
      simp_all
     | false =>
      rw [hl,b4X] at hv
      split at hv
      . rename_i args' its hfz
        obtain ⟨Z1,hm1,t1,he⟩:=c9l h.mem hfz
        unfold d08 at hv
        rw [hcon] at hv
        simp only at hv
        split at hv
        . rename_i r hr
          cases hpu:args'.all H9 with
          | false=>simp_all
          | true =>
          rw [hpu,b4G] at hv
          obtain ⟨ho,hv⟩:=R2 hv
          have ok:=(hE.con K0 Cf args' st.nx r hcon hr hpu ho).run ρ Z1 w _ hm1.fr hm1.sep.zlt (a0w.turn h.a3U t1) (he.tup hargs)
          refine T7 hz hK ok hn fun v w' ⟨ρ',Z',hρ,hfr,hzz,hz',hrep,hsep,hy⟩=>?_
          have ⟨m2,t2⟩:=hm1.join hρ hfr hzz hz' hsep
          rw [<- b4L] at m2
          exact K _ _ _ _ _ (h.put hf (t1.trans t2) m2 hrep) (T0 hv hy)
        simp_all
      simp_all
   . split at hv
     . rename_i o hobc
       have hK:=hE.call K0 (by simp_all)
       unfold c9b at hv
       split at hv
       . rename_i v0 args0
         split at hv
         . rename_i id off
           cases hb:(Nat.beq off 0 && (args0.map (a0v (st.items++lkd))).all H9) with
           | false=>grind
           | true =>
            rw [hb,b4G] at hv
            simp only [b3R] at hb
            have hoff:=b3Q hb.1
            subst hoff
            split at hv
            . rename_i k' fid xx hi
              split at hv
              . rename_i hk
                obtain ⟨ok0,oC⟩:=o
                simp only at hk
                subst hk
                split at hv
                . rename_i r hr
                  obtain ⟨ho,hv⟩:=R2 hv
                  obtain ⟨j,hj,hu,_⟩:=v6 hi
                  obtain ⟨L,Lf,hL,hLf,hob⟩:=h.mem.holds (n8 (l2:=lkd) hj)
                  have hL:ρ id=some L:=hL
                  have hjg:=n8 (l2:=lkd) hj
                  have okj:=h.mem.sep.ok j _ (o5 hjg)
                  have hF:(H2 E.N E.T ρ C.B0 id (.ob k' fid xx)).F=Lf.bs:=by show u5 E.N ρ id (.ob k' fid xx)=_; exact D6 hLf
                  obtain ⟨v1,vr,hvs,hv1,hvr⟩:=Rep.a0H hargs
                  have hv1':v1=.pointer (some ⟨L.b,0,none⟩):=by
                   cases hv1 with
                   | ref hL'=>simp_all
                  subst hv1'
                  have hA:∀ id2 t l,lk (st.items++lkd) id2=some (.ac t l)->∀ b∈u5 E.N ρ id2 (.ac t l),b ∉ Lf.bs:=fun id2 t l hi2 b hb hb'=>by
                   obtain ⟨j2,hj2,_⟩:=v6 hi2
                   have hne:j2≠j:=fun e=>by simp_all
                   exact h.mem.sep.apart j2 j _ _ (o5 hj2) (o5 hjg) hne b hb (by simp_all)
                  have hlv:=K5 (ρ':=fun _=>none) hb.2 (a6n (F:=Lf.bs) h.mem (fun b hb hz=>okj.a1X b (by simp_all) hz) hA hvr)
                  have run:=hE.obc K0 _ xx _ r hobc hr ho Z (seen Z w Lf.bs) w vr L.b Lf.bs h.mem.sep.zlt (fun b hb=>hb.1) (fun b hb=>⟨okj.a1X b (by simp_all),fun hs=>hs.2 hb⟩) hob (E.G.a1L h.a3U (Ext.refl [] w) (fun _ h=>by cases h) (fun b hz hb=>⟨hb,fun hm=>okj.a1X b (by simp_all) hz⟩)) hlv
                  rw [<- hvs] at run
                  refine T7 hz hK run hn fun v w' ⟨F',hob',⟨x,hF'⟩,hrep,hy⟩=>?_
                  obtain ⟨ρ1,m1,t2⟩:=c7z h.mem hi hL hLf hob' x hF'
                  exact K _ _ _ _ _ (h.put hf t2 m1 (Rep.bare hrep)) (T0 hv hy)
                simp_all
              simp_all
            simp_all
         simp_all
       simp_all
     . split at hv
       . rename_i o hwrc
         have hK:=hE.call K0 (by simp_all)
         unfold d6c at hv
         split at hv
         . rename_i v0 T id off
           cases hb:(Nat.beq off 0 && Nat.beq T o.T && H9 (a0v (st.items++lkd) v0)) with
           | false=>simp_all
           | true =>
            rw [hb,b4G] at hv
            simp only [b3R] at hb
            have hoff:=b3Q hb.1.1
            have hT:=b3Q hb.1.2
            subst hoff hT
            split at hv
            . rename_i S x hi
              cases hS:Nat.beq S o.S with
              | false=>simp_all
              | true =>
               rw [hS,b4G] at hv
               have hS:=b3Q hS
               subst hS
               split at hv
               . rename_i r hr
                 obtain ⟨ho,hv⟩:=R2 hv
                 obtain ⟨j,hj,hu,_⟩:=v6 hi
                 have hjg:=n8 (l2:=lkd) hj
                 obtain ⟨L,cs,hL,hbs,hown,hrep⟩:=h.mem.holds hjg
                 have hL:ρ id=some L:=hL
                 obtain ⟨cv,cr,rfl,hcv,_,hcr⟩:=j8.cons_inv hrep
                 obtain rfl:=j8.a0Q hcr
                 obtain ⟨rfl,hxI⟩:cv=.int .i64 x/\InI x:=by cases hcv with | int h=>simp_all
                 obtain ⟨v1,vr,hvs,hv1,hvr⟩:=Rep.a0H hargs
                 obtain ⟨v2,vr2,hvr2,hv2,hvr3⟩:=Rep.a0H hvr
                 have hnil:vr2=[]:=by
                  generalize e:Value.tuple vr2.toArray=u at hvr3
                  cases hvr3 with | a1O=>simpa using e
                 have hv2':v2=.iface o.T (.pointer (some ⟨L.b,0,none⟩)):=by
                  cases hv2 with
                  | ifc h=>cases h with | ref hL'=>simp_all
                 subst hnil hv2' hvr2
                 have okj:=h.mem.sep.ok j _ (o5 hjg)
                 have hF:(H2 E.N E.T ρ C.B0 id (.own o.S [.int .i64 x])).F=[L.b]:=by show u5 E.N ρ id (.own o.S [.int .i64 x])=_; rw [A8 hL,hbs]
                 have hnz:∀ b∈[L.b],¬ Z b:=fun b hb=>okj.a1X b (by simp_all)
                 have hA:∀ id2 t l,lk (st.items++lkd) id2=some (.ac t l)->∀ b∈u5 E.N ρ id2 (.ac t l),b ∉ [L.b]:=fun id2 t l hi2 b hb hb'=>by
                  obtain ⟨j2,hj2,_⟩:=v6 hi2
                  have hne:j2≠j:=fun e=>by simp_all
                  exact h.mem.sep.apart j2 j _ _ (o5 hj2) (o5 hjg) hne b hb (by simp_all)
                 have hlv:=K5 (ρ':=fun _=>none) (ss:=[a0v (st.items++lkd) v0]) (by simp [hb.2]) (a6n (cs:=[v1]) (ss:=[v0]) (F:=[L.b]) h.mem (fun b hb hz=>hnz b hb hz) hA (.a1F (cs:=[]) hv1 .a1O))
                 obtain ⟨u1,ur,hu1,hl1,_⟩:=Rep.a0H hlv
                 obtain ⟨rfl,rfl⟩:v1=u1/\[]=ur:=by simp_all
                 have run:=hE.wrc K0 o _ x r hwrc hr ho (seen Z w [L.b]) w v1 L.b (fun b hb=>hb.1) (fun hs=>hs.2 (by simp)) (E.G.a1L h.a3U (Ext.refl [] w) (fun _ h=>by cases h) (fun b hz hb=>⟨hb,fun hm=>hnz b hm hz⟩)) hl1 hown hxI
                 rw [<- hvs] at run
                 refine T7 hz hK run hn fun v w' ⟨x',hown',hrx,hrep',hy⟩=>?_
                 have hs1:=Wl.Sep.upd h.mem.tn (j+1) (t:=H2 E.N E.T ρ C.B0 id (.own o.S [.int .i64 x])) (t':=K9 L.b o.S [.int .i64 r.x] C.B0) (w':=w') (by rw [b4B]; exact o5 hjg) (by simp_all) hown' b7m (fun b hb=>⟨.inl (by simp_all),by have:=hown'.lt; simp_all⟩) rfl
                 have hjt:j<(s6 E.N E.T ρ C.B0 (st.items++lkd)).length:=by simpa [s6] using B8 hjg
                 have t1:=a19 (Z:=Z) (w:=w) (ρ:=ρ) (ρ':=ρ) (k:=0) hs1 (by simp) (fun _ _ h=>h)
                 have hs2:Sep C.B0 C.w0 Z w' ((s6 E.N E.T ρ C.B0 (st.items++lkd)).set j (K9 L.b o.S [.int .i64 r.x] C.B0)):=a45 (u:=tnI Z w) (by simp_all)
                 have m1:=h.mem.turn (i':=.own o.S [.int .i64 r.x]) hjg hs2 ⟨L,_,hL,hbs,hs2.at j (t:=K9 L.b o.S [.int .i64 r.x] C.B0) (by simp_all),j8.cons (.int fun _=>hrx) rfl j8.nil⟩ (fun b hb=>by rw [A8 hL,hbs] at hb; exact hb)
                 rw [b7O _ _ (B8 hj),<- hu] at m1
                 exact K _ _ _ _ _ (h.put hf t1 m1 (Rep.bare hrep')) (T0 hv hy)
               simp_all
            simp_all
         simp_all
       . split at hv
         . rename_i s hs
           obtain ⟨o,hfn,hs⟩:=b5L.1 hs
           have hK:=hE.a3K K0 (by rw [hfn]; rfl)
           obtain ⟨ho,hv⟩:=R2 hv
           refine T7 hz hK (c8m hE hfn hs ho h.mem h.a3U hargs) hn fun v w' ⟨ρ',Z',hm',t',hr,hy⟩=>?_
           exact K _ _ _ _ _ (h.put hf t' hm' hr) (T0 hv hy)
         . obtain ⟨hi,hrun⟩:=hI _ _ _ _ _ _ hv
           have hK:=hE.call K0 (by rw [hi]; simp)
           refine T7 hz hK (hrun C ρ Z w _ h.mem h.a3U hargs) hn fun v w' ⟨ρ',Z',s,its',nx',hm',t',hr,hk⟩=>?_
           exact K _ _ _ _ _ (h.put hf t' hm' hr) hk
theorem a4k {q:Bool} (hE:l7 E) (hI:N7 E inl) {d:Option Nat} {op:Op} {k:E.St->Prop} (h:Rel E C fx lkd st ρ Z f w) (hf:free n fx st d=true) (hv:b9y q inl fx lkd st d op ty k) (K:KR E C q n ops Q rest fx lkd f d k) :
  WL E.P q n ops Q (⟨d,op,ty,pos,after,none⟩::rest) f w:=by
 unfold b9y at hv
 split at hv
 . rename_i a hs
   cases d with
   | none=>exact hv.elim
   | some d =>
    obtain ⟨ho,hv⟩:=R2 (show cj a.ob (im a.hy (k (put st (some d) a.v))) from hv)
    exact a9b h a1c.nil hs ho (G6 hf).1 fun v hr hy=>K _ _ _ _ _ (h.b2N hf hr) (T0 hv hy)
 . cases q with
   | true=>exact hv.elim
   | false =>
    rw [b4X] at hv
    split at hv
    . rename_i s hs
      cases hd:okD op d with
      | false=>simp_all
      | true =>
       rw [hd,b4G] at hv
       obtain ⟨ho,hv⟩:=R2 hv
       refine b5t hE h.mem (fun o=>h.ev a1c.nil o) hs ho ?_ fun v ρ' Z' w' m1 t1 hr hy=>K _ _ _ _ _ (h.put hf t1 m1 hr) (T0 hv hy)
       have hb:=a0a hf
       cases op with
       | store T a x =>
        cases d with
        | none=>rfl
        | some d=>cases hd
       | _ =>
        cases d with
        | none=>cases hd
        | some d=>exact ⟨d,rfl,hb d rfl⟩
    . split at hv
      . rename_i c hc
        cases op with
        | call c' =>
         simp only [a3h,b3N] at hc; subst hc
         split at hv
         . rename_i a ha
           cases d with
           | none=>cases ha
           | some d =>
            have ha2:b1m fx lkd st [] c'=some a:=ha
            clear ha
            obtain ⟨ho,hv⟩:=R2 hv
            unfold b1m at ha2
            split at ha2
            . rename_i K0 args hcal
              obtain ⟨z,xs,Ts,cap,rfl,hz,hargs⟩:=a2n (fun o=>h.ev a1c.nil o) hcal
              obtain ⟨hK,hrun⟩:=b8j hE h ha2 ho hargs
              refine T7 hz hK hrun (a0a hf) fun v w' ⟨x,hr',hy⟩=>?_
              obtain ⟨m1,t1⟩:=h.mem.a7R x
              exact K _ _ _ _ _ (h.put hf t1 m1 (Rep.bare hr')) (T0 hv hy)
            . cases ha2
         . exact b1b hE hI h a1c.nil hf hv K
        | _=>cases hc
      simp_all
end
end Go.Rx
end
section
namespace Go.Rx
open Go Go.Wk Go.Wl
section
variable {E:Env} {C:Ctx} {n:Nat} {ops:List Oper} {Q:Exit->Fr->World->Prop} {rest:List Oper} {f:Fr} {w w':World}
variable {ty T T':TypeId} {pos:String} {after:Array Edge} {x y z:Operand} {a b:Int} {ρ ρ':r9} {Z Z':Nat->Prop} {its its' lkd:a7 E.N} {nx:Nat} {s:S1 E.N}
variable {fx:o7 E.N} {st:E.St} {inl:Inl E}
theorem a8f {b:Bool}:(undef:Value)≠.bool b:=fun h=>by cases h
theorem a4z (h:Rel E C fx lkd st ρ Z f w):∀ (m j:Nat) (b:Bool),f j=.bool b->a1c f (chain st.gs m j b)
 | 0,_,_,_=>a1c.nil
 | m+1,j,b,e=>fun k c hk=>by
  simp only [chain,c6c,List.any_cons,b7I,b3R] at hk
  rcases hk with ⟨h1,h2⟩ | hk
  . simp_all
  . split at hk
    . rename_i j' b' v hg
      have hgs:=h.gs j j' b' v hg
      have e':f j'=.bool b':=by
       by_cases e2:f j'=.bool b'
       . exact e2
       . rw [hgs.2 e2] at e; exact absurd e a8f
      exact a4z h m j' b' e' k c hk
    . simp at hk
theorem a4n (h:Rel E C fx lkd st ρ Z f w):∀ (m j:Nat) (b:Bool) (p:Prop) (d:Decidable p),b4g fx st m j b=some ⟨p,d⟩->(p↔f j=.bool b)/\(¬ p->f j=.bool (!b) ∨ f j=undef)
 | 0,_,_,_,_,e=>by cases e
 | m+1,j,b,p,d,e=>by
  unfold b4g at e
  split at e
  . rename_i j' b' v hg
    have hgs:=h.gs j j' b' v hg
    split at e
    . rename_i p1 d1 q1 e1 hp1 hq1
      have ih:=a4n h m j' b' q1 e1 hq1
      cases b with
      | true =>
       rw [b4G] at e; cases e
       by_cases hq:q1
       . have hr:=(hgs.1 (ih.1.1 hq)).a2K hp1
         simp_all
       . have hu:=hgs.2 (fun e=>hq (ih.1.2 e))
         rw [hu]
         exact ⟨⟨fun h=>absurd h.1 hq,fun h=>absurd h a8f⟩,fun _=>.inr rfl⟩
      | false =>
       rw [b4X] at e; cases e
       by_cases hq:q1
       . have hr:=(hgs.1 (ih.1.1 hq)).a2K hp1
         simp_all
       . have hu:=hgs.2 (fun e=>hq (ih.1.2 e))
         rw [hu]
         exact ⟨⟨fun h=>absurd h.1 hq,fun h=>absurd h a8f⟩,fun _=>.inr rfl⟩
    . cases e
  . split at e
    . rename_i p1 d1 hp1
      have hr:=(h.slot j).a2K hp1
      grind
    . cases e
theorem Rel.guarded {d dj:Nat} {b:Bool} {v:Value} {s:E.SV} (h:Rel E C fx lkd st ρ Z f w) (hf:free n fx st (some d)=true) (hd:d≠dj) (t:Tn ρ Z w ρ Z' w') (hm:Mem E C ρ Z' w' (st.items++lkd) st.nx) (hv:(f dj=.bool b->Rep E.N E.T ρ Z' w' v s)/\(f dj≠.bool b->v=undef)) :
  Rel E C fx lkd ⟨(d,.un)::st.slots,(d,dj,b,s)::st.gs,st.items,st.nx⟩ ρ Z' (upd f d v) w':=by
 obtain ⟨_,h2,h3,h4⟩:=G6 hf
 refine ⟨fun k s' hk=>?_,fun p hp=>?_,fun k j c s' hk=>?_,hm,h.tn.trans t,h.g⟩
 . rw [H4] at hk
   by_cases e:d=k
   . rw [if_pos e] at hk; cases hk; exact .un
   . rw [if_neg e] at hk; rw [Y2 e]; exact t.rep (h.sl k s' hk)
 . rw [Y2 (a6s h2 p hp)]; exact t.rep (h.fx p hp)
 . rw [H4] at hk
   by_cases e:d=k
   . rw [if_pos e] at hk; cases hk; subst e
     rw [a50,Y2 hd]; exact hv
   . rw [if_neg e] at hk
     have e2:d≠j:=b6D (c22 h4 hk)
     rw [Y2 e,Y2 e2]
     exact ⟨fun e=>t.rep ((h.gs k j c s' hk).1 e),(h.gs k j c s' hk).2⟩
theorem c0u {p:Prop} {l:List Prop} (hp:p) (h:n6 (imp p l)):n6 l:=by
 induction l with
 | nil=>trivial
 | cons q l ih=>exact ⟨h.1 hp,ih h.2⟩
theorem a7e {p:Prop} {l:List Prop} (h:p->n6 l):n6 (imp p l):=by
 induction l with
 | nil=>trivial
 | cons q l ih=>exact ⟨fun hp=>(h hp).1,ih fun hp=>(h hp).2⟩
theorem Rel.b0N {dj:Nat} {b:Bool} (h:Rel E C fx lkd st ρ Z f w) (e:f dj=.bool b):Rel E C fx lkd (Rx.put st (some dj) (bif b then .tt else .ff)) ρ Z f w:=by
 refine ⟨fun k s' hk=>?_,h.fx,h.gs,h.mem,h.tn,h.g⟩
 have hk:lk ((dj,bif b then SV.tt else SV.ff)::st.slots) k=some s':=hk
 rw [H4] at hk
 by_cases e2:dj=k
 . rw [if_pos e2] at hk; cases hk; subst e2; rw [e]
   cases b
   . exact .ff
   . exact .tt
 . rw [if_neg e2] at hk; exact h.sl k s' hk
theorem d4h {β:Type} {a b:List (Nat×β)} {k:Nat} {x:β} (h:lk (a++b) k=some x):lk a k=some x ∨ lk b k=some x:=by
 induction a with
 | nil=>exact .inr h
 | cons p a ih =>
  have h:(bif Nat.beq p.1 k then some p.2 else lk (a++b) k)=some x:=h
  show (bif Nat.beq p.1 k then some p.2 else lk a k)=some x ∨ _
  grind
theorem d7z {β:Type} {a:List (Nat×β)} {k:Nat} {x:β} (h:lk a k=some x):(k,x)∈a:=by
 obtain ⟨i,hi,_⟩:=v6 h
 grind
theorem a74 {β:Type} {l:List (Nat×β)} {g:Nat->Bool} {k:Nat} {x:β} (h:lk (l.filter fun p=>g p.1) k=some x):g k=true/\lk l k=some x:=by
 induction l with
 | nil=>cases h
 | cons p l ih =>
  show _/\(bif Nat.beq p.1 k then some p.2 else lk l k)=some x
  rw [b7Q] at h
  by_cases hg:g p.1=true
  . rw [if_pos hg] at h
    have h:(bif Nat.beq p.1 k then some p.2 else lk (l.filter fun p=>g p.1) k)=some x:=h
    cases hb:Nat.beq p.1 k with
    | true =>
     simp_all
    | false=>simp_all
  . rw [if_neg hg] at h
    obtain ⟨h1,h2⟩:=ih h
    cases hb:Nat.beq p.1 k with
    | true =>
     simp_all
    | false=>simp_all
theorem Rel.settle {dj:Nat} {b:Bool} (h:Rel E C fx lkd st ρ Z f w) (e:f dj=.bool b):Rel E C fx lkd (Rx.settle st dj b) ρ Z f w:=by
 refine ⟨fun k s' hk=>?_,h.fx,fun k j c s' hk=>?_,h.mem,h.tn,h.g⟩
 . rcases d4h hk with hk | hk
   . have hm:=d7z hk
     rw [b8L] at hm
     obtain ⟨p,_,hp⟩:=hm
     split at hp
     . rename_i j w' v hl
       cases hb:Nat.beq j dj with
       | false=>simp_all
       | true =>
        rw [hb,b4G] at hp
        have hj:=b3Q hb
        subst hj
        simp only [b3N,b4P] at hp
        obtain ⟨rfl,rfl⟩:=hp
        have g:=h.gs p.1 j w' v hl
        by_cases hw:w'=b
        . simp_all
        . have:(w' == b)=false:=by simpa using hw
          rw [this,b4X,g.2 (by grind)]
          exact .undef
     . cases hp
   . exact h.sl k s' hk
 . have hk:lk (st.gs.filter (fun p=>match lk st.gs p.1 with | some (j,_,_)=>!Nat.beq j dj | none=>false)) k=some (j,c,s'):=hk
   exact h.gs k j c s' (a74 (g:=fun k=>match lk st.gs k with | some (j,_,_)=>!Nat.beq j dj | none=>false) hk).2
theorem X1 {dj:Nat} {b:Bool} {d:Option Nat} (h:free n fx st d=true):free n fx (settle st dj b) d=true:=by
 cases d with
 | none=>rfl
 | some d =>
  unfold free at h ⊢
  simp only [b3R] at h ⊢
  obtain ⟨⟨⟨h1,h2⟩,h3⟩,h4⟩:=h
  refine ⟨⟨⟨h1,h2⟩,?_⟩,?_⟩
  . cases hl:lk (settle st dj b).gs d with
    | none=>rfl
    | some x =>
     have hl:lk (st.gs.filter (fun p=>match lk st.gs p.1 with | some (j,_,_)=>!Nat.beq j dj | none=>false)) d=some x:=hl
     have:=(a74 (g:=fun k=>match lk st.gs k with | some (j,_,_)=>!Nat.beq j dj | none=>false) hl).2
     simp_all
  . rw [b5A] at h4 ⊢
    intro p hp
    exact h4 p (b7H.1 hp).1
theorem a4b {dj:Nat} {s:E.SV} {d:Option Nat} (h:free n fx st d=true):free n fx (put st (some dj) s) d=true:=by
 cases d with
 | none=>rfl
 | some d=>exact h
theorem a8e {q:Bool} {j dj:Nat} {b:Bool} {d:Option Nat} {op:Op} {k:E.St->Prop} (hj:q8 ops j=some dj) (hnj:Nat.blt dj n=true) (h:Rel E C fx lkd st ρ Z f w) (hf:free n fx st d=true) (hq:q=true->d.isSome=true) (e:f dj=.bool (!b) ∨ f dj=undef) (hk:k (put st d .undef)) (K:KR E C q n ops Q rest fx lkd f d k) :
  WL E.P q n ops Q (⟨d,op,ty,pos,after,some (j,b)⟩::rest) f w:=by
 have hr:=h.b2N (v:=undef) hf .undef
 cases d with
 | some d =>
  have hn:=(G6 hf).1
  rcases e with e | e
  . exact L4 hj hnj hn e (K _ _ _ _ _ hr hk)
  . exact a6w hj hnj hn e (K _ _ _ _ _ hr hk)
 | none =>
  cases q with
  | true=>simp_all
  | false =>
   rcases e with e | e
   . exact d5a hj hnj e (K _ _ _ _ _ hr hk)
   . exact c9p hj hnj e (K _ _ _ _ _ hr hk)
theorem b8i {e0 q:Bool} (hE:l7 E) (hI:N7 E inl) {j dj:Nat} {b:Bool} {d:Option Nat} {op:Op} {k:E.St->Prop} (hj:q8 ops j=some dj) (hnj:Nat.blt dj n=true) (h:Rel E C fx lkd st ρ Z f w) (hf:free n fx st d=true) (hq:q=true->d.isSome=true) (hv:b2k n e0 q inl fx lkd st dj b d op ty k) (K:KR E C q n ops Q rest fx lkd f d k) :
  WL E.P q n ops Q (⟨d,op,ty,pos,after,some (j,b)⟩::rest) f w:=by
 unfold b2k at hv
 split at hv
 . rename_i p a d' hs
   replace hs:b65 q fx lkd st dj b d op=some (p,a,d'):=by
    cases e0 with
    | true=>cases hs
    | false=>exact hs
   unfold b65 at hs
   split at hs
   . rename_i p1 dp a1 d1 hg ho1
     cases hb:Nat.beq d1 dj with
     | true=>simp_all
     | false =>
      rw [hb,b4X] at hs; cases hs
      have hne:d'≠dj:=fun e=>by simp_all
      obtain ⟨ho,hv⟩:=R2 hv
      obtain ⟨g1,g2⟩:=a4n h 8 dj b p dp hg
      by_cases hp:p
      . have e:=g1.1 hp
        have ho:=c0u hp ho
        have hc:=a4z h 8 dj b e
        refine L5 hj hnj e ?_
        unfold gOp at ho1
        split at ho1
        . rename_i a2 hs2
          simp only [b3N] at ho1; subst ho1
          exact a9b h hc hs2 ho (G6 hf).1 fun v hr hy=>K _ _ _ _ _ (h.guarded hf hne (Tn.refl _ _ _) h.mem ⟨fun _=>hr,fun e'=>absurd e e'⟩) (T0 hv (a7e fun _=>hy))
        . cases q with
          | true=>cases ho1
          | false =>
           rw [b4X] at ho1
           split at ho1
           . rename_i c hc2
             cases op with
             | call c' =>
              simp only [a3h,b3N] at hc2; subst hc2
              unfold b1m at ho1
              split at ho1
              . rename_i K0 args hcal
                obtain ⟨z,xs,Ts,cap,rfl,hz,hargs⟩:=a2n (fun o=>h.ev hc o) hcal
                obtain ⟨hK,hrun⟩:=b8j hE h ho1 ho hargs
                refine T7 hz hK hrun (a0a hf) fun v w' ⟨x,hr',hy⟩=>?_
                obtain ⟨m1,t1⟩:=h.mem.a7R x
                exact K _ _ _ _ _ (h.guarded hf hne t1 m1 ⟨fun _=>Rep.bare hr',fun e'=>absurd e e'⟩) (T0 hv (a7e fun _=>hy))
              . cases ho1
             | _=>cases hc2
           . cases ho1
      . have e:=g2 hp
        have hr:=h.guarded (v:=undef) (s:=a.v) (b:=b) hf hne (Tn.refl _ _ _) h.mem ⟨fun e'=>absurd (g1.2 e') hp,fun _=>rfl⟩
        have hk:=T0 hv (a7e fun hp'=>absurd hp' hp)
        rcases e with e | e
        . exact L4 hj hnj (G6 hf).1 e (K _ _ _ _ _ hr hk)
        . exact a6w hj hnj (G6 hf).1 e (K _ _ _ _ _ hr hk)
   . cases hs
 . cases hb:((lk st.gs dj).isNone && !q) with
   | false=>simp_all
   | true =>
    rw [hb,b4G] at hv
    split at hv
    . rename_i p dp hp
      have hr:=(h.slot dj).a2K hp
      by_cases hpp:p
      . have e:f dj=.bool true:=by rw [hr]; simp [hpp]
        have hk:=hv.1 hpp
        have h2:=(h.settle e).b0N e
        cases b with
        | true=>rw [b4G] at hk; exact L5 hj hnj e (a4k hE hI h2 (a4b (X1 hf)) hk K)
        | false=>rw [b4X] at hk; exact a8e hj hnj h2 (a4b (X1 hf)) hq (.inl e) hk K
      . have e:f dj=.bool false:=by rw [hr]; simp [hpp]
        have hk:=hv.2 hpp
        have h2:=(h.settle e).b0N e
        cases b with
        | true=>rw [b4G] at hk; exact a8e hj hnj h2 (a4b (X1 hf)) hq (.inl e) hk K
        | false=>rw [b4X] at hk; exact L5 hj hnj e (a4k hE hI h2 (a4b (X1 hf)) hk K)
    simp_all
theorem a8k {q:Bool} (hE:l7 E) (hI:N7 E inl) {k:E.St->Prop}:∀ (l:List Oper) (st:E.St) (ρ:r9) (Z:Nat->Prop) (f:Fr) (w:World),Rel E C fx lkd st ρ Z f w->a18 n q inl fx lkd ops l st k->(∀ st' ρ' Z' f' w',Rel E C fx lkd st' ρ' Z' f' w'->st'.gs=[]->k st'->Q .normal f' w')->WL E.P q n ops Q l f w
 | [],st,ρ,Z,f,w,h,hv,K=>b8 (K ⟨st.slots,[],st.items,st.nx⟩ ρ Z f w ⟨h.sl,h.fx,fun k j b s hk=>(by cases hk),h.mem,h.tn,h.g⟩ rfl hv)
 | o::rest,st,ρ,Z,f,w,h,hv,K=>by
  obtain ⟨dst,op,ty,pos,after,guard⟩:=o
  unfold a18 at hv
  rw [c56] at hv
  cases hb:(free n fx st dst && (!q || dst.isSome)) with
  | false=>simp_all
  | true =>
   simp only [hb,b4G] at hv
   simp only [b3R,b7I,b7W] at hb
   obtain ⟨hf,hq⟩:=hb
   have hq':q=true->dst.isSome=true:=fun e=>by
    simp_all
   have KK:KR E C q n ops Q rest fx lkd f dst (fun st=>a18 n q inl fx lkd ops rest st k):=fun st' ρ' Z' v w' hr hk=>a8k hE hI rest st' ρ' Z' _ w' hr hk K
   cases guard with
   | none=>exact a4k hE hI h hf hv KK
   | some g =>
    obtain ⟨j,b⟩:=g
    simp only at hv
    split at hv
    . exact hv.elim
    . rename_i dj hj
      cases hnj:Nat.blt dj n with
      | false=>simp_all
      | true =>
       rw [hnj,b4G] at hv
       have hslot:∀ s,(bif (lk st.gs dj).isNone then s5 fx st dj else .un)=s->Rep E.N E.T ρ Z w (f dj) s:=fun s e=>by
        subst e
        cases (lk st.gs dj).isNone with
        | true=>exact h.slot dj
        | false=>exact .un
       split at hv
       . rename_i e
         have hr:=hslot _ e
         have e1:f dj=.bool true:=by generalize f dj=u at hr; cases hr; rfl
         cases b with
         | true=>rw [b4G] at hv; exact L5 hj hnj e1 (a4k hE hI h hf hv KK)
         | false=>rw [b4X] at hv; exact a8e hj hnj h hf hq' (.inl e1) hv KK
       . rename_i e
         have hr:=hslot _ e
         have e1:f dj=.bool false:=by generalize f dj=u at hr; cases hr; rfl
         cases b with
         | true=>rw [b4G] at hv; exact a8e hj hnj h hf hq' (.inl e1) hv KK
         | false=>rw [b4X] at hv; exact L5 hj hnj e1 (a4k hE hI h hf hv KK)
       . rename_i e
         have hr:=hslot _ e
         have e1:f dj=undef:=by generalize f dj=u at hr; cases hr; rfl
         exact a8e hj hnj h hf hq' (.inr e1) hv KK
       . exact b8i hE hI hj hnj h hf hq' hv KK
end
end Go.Rx
end
section
namespace Go.Rx
open Go Go.Wk Go.Wl
section
variable {E:Env} {C:Ctx} {n:Nat} {ops:List Oper} {Q:Exit->Fr->World->Prop} {rest:List Oper} {f:Fr} {w w':World}
variable {ty T T':TypeId} {pos:String} {after:Array Edge} {x y z:Operand} {ρ ρ':r9} {Z Z':Nat->Prop} {its its' lkd:a7 E.N} {nx:Nat}
variable {fx:o7 E.N} {st:E.St}
theorem c4r {ps:List Prop} {r:Prop} (h:n6 ps) (hr:r):cj ps r:=by
 induction ps with
 | nil=>exact hr
 | cons p ps ih=>exact ⟨h.1,ih h.2⟩
theorem b69 {ps:List Prop} {r:Prop} (h:n6 ps->r):im ps r:=by
 induction ps with
 | nil=>exact h trivial
 | cons p ps ih=>exact fun hp=>ih fun hs=>h ⟨hp,hs⟩
theorem c24:∀ {ps:List Prop},cjl ps->n6 ps
 | [],_=>trivial
 | [_],h=>⟨h,trivial⟩
 | _::_::_,h=>⟨h.1,c24 h.2⟩
theorem c9e (hE:l7 E) {ch:List (Nat×Bool)} {op:Op} {d:Nat} {a:Q1 E.N} (h:Rel E C fx lkd st ρ Z f w) (hc:a1c f ch) (hs:gOp false fx lkd st ch op=some a) (ho:n6 a.ob) (hn:Nat.blt d n=true)
  (K:∀ v w',Ext [] w w'->Rep E.N E.T ρ Z w' v a.v->n6 a.hy->WL E.P false n ops Q rest (upd f d v) w'):WL E.P false n ops Q (⟨some d,op,ty,pos,after,none⟩::rest) f w:=by
 unfold gOp at hs
 split at hs
 . rename_i a2 hs2
   simp only [b3N] at hs; subst hs
   exact a9b h hc hs2 ho hn fun v hr hy=>K v w (Ext.refl [] w) hr hy
 . rw [b4X] at hs
   split at hs
   . rename_i c hc2
     cases op with
     | call c' =>
      simp only [a3h,b3N] at hc2; subst hc2
      unfold b1m at hs
      split at hs
      . rename_i K0 args hcal
        obtain ⟨z,xs,Ts,cap,rfl,hz,hargs⟩:=a2n (fun o=>h.ev hc o) hcal
        obtain ⟨hK,hrun⟩:=b8j hE h hs ho hargs
        exact T7 hz hK hrun (fun d' e=>by simp_all) fun v w' ⟨x,hr',hy⟩=>K v w' x (Rep.bare hr') hy
      . cases hs
     | _=>cases hc2
   . cases hs
def e2k (E:Env):Inl E:=fun _ _ _ _ _ _=>False
theorem d2x:N7 E (e2k E):=fun _ _ _ _ _ _ h=>h.elim
theorem c8b {ch:List (Nat×Bool)} {d:Option Nat} {c:Call} {s:S1 E.N} {k:E.St->Prop} (hs:c75 fx lkd st ch c=some s) (ho:n6 s.ob) (hk:n6 s.hy->k (put ⟨st.slots,st.gs,s.items,s.nx⟩ d s.v)):a7m (e2k E) fx lkd st ch d c k:=by
 unfold c75 at hs
 unfold a7m
 split at hs
 . cases hs
 . rename_i K args hcal
   split at hs
   . rename_i Cf hcon
     cases hl:E.a1Y K with
     | true=>simp_all
     | false =>
      rw [hl,b4X] at hs
      try rw [hcon]
      simp only [b4X]
      split at hs
      . rename_i args' its hf
        try rw [hf]
        try simp only
        unfold e2j at hs
        unfold d08
        rw [hcon] at hs ⊢
        simp only at hs ⊢
        split at hs
        . rename_i r hr
          have ⟨hb,hs2⟩:=j7 hs
          simp only [b3N] at hs2; subst hs2
          try rw [hr]
          rw [hb]
          exact c4r ho (b69 hk)
        . cases hs
      . cases hs
   . rename_i hcon
     try rw [hcon]
     try simp only
     split at hs
     . rename_i o hob
       try rw [hob]
       try simp only
       unfold e63 at hs
       unfold c9b
       split at hs
       . rename_i v args0
         split at hs
         . rename_i id off
           have ⟨hb,hs2⟩:=j7 hs
           simp only [hb,b4G]
           split at hs2
           . rename_i k' fid x hi
             try rw [hi]
             try simp only
             split at hs2
             . rename_i hk'
               try rw [dif_pos hk']
               split at hs2
               . rename_i r hr
                 simp only [b3N] at hs2; subst hs2
                 try rw [hr]
                 exact c4r ho (b69 hk)
               . cases hs2
             . cases hs2
           . cases hs2
         . cases hs
       . cases hs
     . rename_i hob
       try rw [hob]
       try simp only
       split at hs
       . cases hs
       . rename_i hw
         try rw [hw]
         try simp only
         rw [hs]
         exact c4r ho (b69 hk)
theorem d2u (hE:l7 E) {ch:List (Nat×Bool)} {d:Option Nat} {op:Op} {s:S1 E.N} (h:Rel E C fx lkd st ρ Z f w) (hG:a1c f ch) (hf:free n fx st d=true) (hs:b8h fx lkd st ch d op ty=some s) (ho:n6 s.ob)
  (K:∀ v ρ' Z' w',Rel E C fx lkd (put ⟨st.slots,st.gs,s.items,s.nx⟩ d s.v) ρ' Z' (M0 f d v) w'->n6 s.hy->WL E.P false n ops Q rest (M0 f d v) w') :
  WL E.P false n ops Q (⟨d,op,ty,pos,after,none⟩::rest) f w:=by
 unfold b8h at hs
 split at hs
 . rename_i s' hs'
   have ⟨hd,hs2⟩:=j7 hs
   simp only [b3N] at hs2; subst hs2
   refine b5t hE h.mem (fun o=>h.ev hG o) hs' ho ?_ fun v ρ' Z' w' m1 t1 hr hy=>K _ _ _ _ (h.put hf t1 m1 hr) hy
   have hb:=a0a hf
   cases op with
   | store T a x =>
    cases d with
    | none=>rfl
    | some d=>cases hd
   | _ =>
    cases d with
    | none=>cases hd
    | some d=>exact ⟨d,rfl,hb d rfl⟩
 . split at hs
   . rename_i c hc
     cases op with
     | call c' =>
      simp only [a3h,b3N] at hc; subst hc
      refine b1b hE d2x h hG hf (c8b (k:=fun st'=>st'=put ⟨st.slots,st.gs,s.items,s.nx⟩ d s.v/\n6 s.hy) hs ho fun hy=>⟨rfl,hy⟩) fun st' ρ' Z' v w' hr hk=>?_
      grind
     | _=>cases hc
   . cases hs
end
end Go.Rx
end
section
namespace Go.Rx
open Go Go.Wk Go.Wl
section
variable {N:Uni} {p:Nat->Bool}
theorem a5u:∀ {a0V:List (Ent N)} {j0 k:Nat} {s:SV N},lk (Y0 p j0 a0V) k=some s->∃ j e,a0V[j]?=some e/\p (j0+j)=true/\e.dst=some k/\s=e.now
 | [],_,_,_,h=>by cases h
 | e::r,j0,k,s,h=>by
  have go:lk (Y0 p (j0+1) r) k=some s->∃ j e',(e::r)[j]?=some e'/\p (j0+j)=true/\e'.dst=some k/\s=e'.now:=fun h=>by
   obtain ⟨j,e',h1,h2,h3⟩:=a5u h
   exact ⟨j+1,e',by simp_all,by grind,h3⟩
  unfold Y0 at h
  cases hp:p j0 with
  | false=>simp_all
  | true =>
   rw [hp,b4G] at h
   split at h
   . rename_i d hd
     rw [H4] at h
     by_cases e1:d=k
     . rw [if_pos e1] at h; cases h; exact ⟨0,e,rfl,hp,by rw [hd,e1],rfl⟩
     simp_all
   . exact go h
theorem c6i:∀ {a0V:List (Ent N)} {j0 k j':Nat} {b:Bool} {s:SV N},lk (dGs p j0 a0V) k=some (j',b,s)->∃ j e jj,a0V[j]?=some e/\p (j0+j)=true/\p jj=true/\e.dst=some k/\e.g=some (jj,j',b)/\s=e.sv
 | [],_,_,_,_,_,h=>by cases h
 | e::r,j0,k,j',b,s,h=>by
  have go:lk (dGs p (j0+1) r) k=some (j',b,s)->∃ j e' jj,(e::r)[j]?=some e'/\p (j0+j)=true/\p jj=true/\e'.dst=some k/\e'.g=some (jj,j',b)/\s=e'.sv:=fun h=>by
   obtain ⟨j,e',jj,h1,h2,h3⟩:=c6i h
   exact ⟨j+1,e',jj,by simp_all,by grind,h3⟩
  unfold dGs at h
  cases hp:p j0 with
  | false=>simp_all
  | true =>
   rw [hp,b4G] at h
   split at h
   . rename_i d jj dj b' hd hg
     cases hpj:p jj with
     | false=>simp_all
     | true =>
      rw [hpj,b4G] at h
      rw [H4] at h
      by_cases e1:d=k
      . rw [if_pos e1] at h; cases h; exact ⟨0,e,jj,rfl,hp,hpj,by rw [hd,e1],hg,rfl⟩
      simp_all
   . exact go h
theorem c50 {a b:List Prop} (h:n6 a) (k:n6 b):n6 (a++b):=by
 induction a with
 | nil=>exact k
 | cons p r ih=>exact ⟨h.1,ih h.2⟩
theorem b3e:∀ {a0V:List (Ent N)} {j0:Nat},(∀ j e,a0V[j]?=some e->p (j0+j)=true->n6 e.hy)->n6 (dHy p j0 a0V)
 | [],_,_=>trivial
 | e::r,j0,h=>by
  have go:n6 (dHy p (j0+1) r):=b3e fun j e' h1 h2=>h (j+1) e' (by simp_all) (by grind)
  unfold dHy
  cases hp:p j0 with
  | false=>exact go
  | true=>exact c50 (h 0 e rfl hp) go
theorem b0l {β:Type} {q:Nat->Bool} {l:List (Nat×β)} {k:Nat} {s:β} (h:lk (l.filter (fun p=>q p.1)) k=some s):q k=true/\lk l k=some s:=by
 induction l with
 | nil=>cases h
 | cons p r ih =>
  rw [b7Q] at h
  by_cases hq:q p.1=true
  . rw [if_pos hq] at h
    have h:lk ((p.1,p.2)::r.filter (fun p=>q p.1)) k=some s:=h
    show _/\lk ((p.1,p.2)::r) k=some s
    rw [H4] at h ⊢
    grind
  . rw [if_neg hq] at h
    have ⟨h1,h2⟩:=ih h
    refine ⟨h1,?_⟩
    show lk ((p.1,p.2)::r) k=some s
    rw [H4,if_neg]
    all_goals grind
end
section
variable {B0:List Nat} {w0 w w':World} {Z:Nat->Prop} {l l':List It}
theorem Sep.sub (hs:Sep B0 w0 Z w l) (h:l'.Sublist l):Sep B0 w0 Z w l':=by
 obtain ⟨h1,h2⟩:=Sep.pw hs
 exact Sep.b0U hs.ext hs.zlt (fun t ht=>h1 t (h.subset ht)) (h2.sublist h)
end
section
variable {E:Env} {C:Ctx} {ρ ρ':r9} {Z Z':Nat->Prop} {w w':World} {its its':a7 E.N} {nx nx':Nat}
theorem Mem.sub (hm:Mem E C ρ Z w its nx) (h:its'.Sublist its) (hn:nx<=nx'):Mem E C ρ Z w its' nx':=⟨Sep.sub hm.sep (h.map _),fun i hi=>hm.fr i (by omega),hm.ge,hm.zge,hm.zle⟩
theorem b02 {X T:List Nat} (h:∀ t∈T,t∈X):n9 (n9 its X) T=n9 its X:=by
 unfold n9
 rw [b9H]
 grind
end
def a7i (E:Env) (ρ:r9) (Z:Nat->Prop) (w:World) (D:Nat->Bool) (V:Nat->Value) (j:Nat) (e:Ent E.N):Prop :=
 n6 e.hy/\match e.g with
  | none=>Rep E.N E.T ρ Z w (V j) e.sv
  | some (jj,_,b)=>D jj=true/\(V jj=.bool b->Rep E.N E.T ρ Z w (V j) e.sv)/\(V jj≠.bool b->V j=undef)
structure JI (E:Env) (C:Ctx) (fx:o7 E.N) (lkd:a7 E.N) (st0:E.St) (f0:Fr) (F:DA E.N) (D:Nat->Bool) (V:Nat->Value) (w:World) (ρ:r9) (Z:Nat->Prop) (k:Nat):Prop where
 eff:∀ r e,F.a0O[r]?=some e->(D e=true↔r<k)
 mem:∃ m,F.a1S[k]?=some m/\Mem E C ρ Z w (m.1++lkd) m.2
 tn:Tn C.ρ0 C.Z0 C.w1 ρ Z w
 sl:∀ k s,lk st0.slots k=some s->Rep E.N E.T ρ Z w (f0 k) s
 fx:∀ p∈fx,Rep E.N E.T ρ Z w (f0 p.1) p.2
 ent:∀ j e,F.a0V[j]?=some e->D j=true->a7i E ρ Z w D V j e
 g:E.G.is C.Z0 C.w1
def JF (E:Env) (C:Ctx) (fx:o7 E.N) (lkd:a7 E.N) (st0:E.St) (f0:Fr) (F:DA E.N):JP:=fun D V w=>∃ ρ Z k,JI E C fx lkd st0 f0 F D V w ρ Z k
structure WA (E:Env) (l:List Oper) (H:O8) (i:Nat) (a:DA E.N):Prop where
 len:a.a0V.length=i
 ent:∀ j e,a.a0V[j]?=some e->q8 l j=e.dst/\∀ jj dj b,e.g=some (jj,dj,b)->q8 l jj=some dj
 eff:∀ e∈a.a0O,e<i/\∃ T,lk H e=some T
 up:a.a0O.Pairwise (· < ·)
 a6L:a.a1S.length=a.a0O.length+1
 chain:∀ (r e:Nat) (m m':a7 E.N×Nat),a.a0O[r]?=some e->a.a1S[r]?=some m->a.a1S[r+1]?=some m'->∃ T new,lk H e=some T/\m'.1=new++n9 (E:=E) m.1 T
 nx:∀ m∈a.a1S,m.2<=NX
structure Up {N:Uni} (a F:DA N) (i:Nat):Prop where
 a0V:∃ x,F.a0V=a.a0V++x
 a0O:∃ y,F.a0O=a.a0O++y/\∀ e∈y,i<=e
 a1S:∃ z,F.a1S=a.a1S++z
theorem Up.ent {N:Uni} {a F:DA N} {i j:Nat} {e:Ent N} (h:Up a F i) (hj:a.a0V[j]?=some e):F.a0V[j]?=some e:=by
 obtain ⟨x,hx⟩:=h.a0V
 grind
theorem Up.eff {N:Uni} {a F:DA N} {i j e:Nat} (h:Up a F i) (hj:a.a0O[j]?=some e):F.a0O[j]?=some e:=by
 obtain ⟨x,hx,_⟩:=h.a0O
 grind
theorem Up.mem {N:Uni} {a F:DA N} {i j:Nat} {e:a7 N×Nat} (h:Up a F i) (hj:a.a1S[j]?=some e):F.a1S[j]?=some e:=by
 obtain ⟨x,hx⟩:=h.a1S
 grind
section
variable {E:Env} {C C':Ctx} {n:Nat} {l:List Oper} {ms:List Nat} {H:O8} {f0:Fr} {st0:E.St} {fx:o7 E.N} {lkd lkd':a7 E.N} {F a:DA E.N} {D:Nat->Bool} {V:Nat->Value} {w w':World} {ρ ρ':r9} {Z Z':Nat->Prop} {i k:Nat} {g:Fr} {its:a7 E.N} {nx:Nat}
theorem c2q (hf:a0k fx l=true) {p:Nat×E.SV} (hp:p∈fx):X9 ms i p.1 l 0=true:=by
 have key:∀ (r:List Oper) (j:Nat),(∀ o∈r,∀ d,o.dst=some d->d≠p.1)->X9 ms i p.1 r j=true:=by
  intro r
  induction r with
  | nil=>intro j _; rfl
  | cons o r ih =>
   intro j h
   unfold X9
   rw [ih (j+1) (fun o ho=>h o (b5O _ ho)),Bool.and_true]
   split
   . rename_i d hd
     rw [a1s (h o (b6B ..) d hd)]; rfl
   . rfl
 refine key l 0 fun o ho d hd e=>?_
 unfold a0k at hf
 rw [b5A] at hf
 have:=hf o ho
 rw [hd] at this
 simp only [b7P] at this
 exact a6s this p hp e
theorem JI.rel (hj:JI E C fx lkd st0 f0 F D V w ρ Z k) (hf:a0k fx l=true) (hw:WA E l H i a) (hu:∀ (j:Nat) (e:Ent E.N),a.a0V[j]?=some e->F.a0V[j]?=some e) (hd:∀ j,bit ms i j=true->D j=true)
  (hdone:∀ j t,D j=true->q8 l j=some t->g t=V j) (hkept:∀ t,X9 ms i t l 0=true->g t=f0 t) (hm:Mem E C' ρ Z w (its++lkd') nx) (ht:Tn C'.ρ0 C'.Z0 C'.w1 ρ Z w) (hg0:E.G.is C'.Z0 C'.w1):Rel E C' fx lkd' (dSt l ms st0 i a its nx) ρ Z g w:=by
 refine ⟨fun k s hk=>?_,fun p hp=>by rw [hkept _ (c2q hf hp)]; exact hj.fx p hp,fun k j' b s hk=>?_,hm,ht,hg0⟩
 . rcases b6s hk with hk | ⟨_,hk⟩
   . obtain ⟨j,e,h1,h2,h3,rfl⟩:=a5u hk
     rw [b6J] at h2
     have hD:=hd j h2
     have hg:=hdone j k hD (by rw [(hw.ent j e h1).1]; exact h3)
     have ho:=(hj.ent j e (hu j e h1) hD).2
     unfold Ent.now
     split
     . simp_all
     . exact .un
   . have ⟨h1,h2⟩:=b0l (q:=fun t=>X9 ms i t l 0) hk
     rw [hkept k h1]; exact hj.sl k s h2
 . obtain ⟨j,e,jj,h1,h2,h3,h4,h5,rfl⟩:=c6i hk
   rw [b6J] at h2
   have hD:=hd j h2
   have hg:=hdone j k hD (by rw [(hw.ent j e h1).1]; exact h4)
   have hg':=hdone jj j' (hd jj h3) ((hw.ent j e h1).2 _ _ _ h5)
   have ho:=(hj.ent j e (hu j e h1) hD).2
   simp_all
theorem JI.hys (hj:JI E C fx lkd st0 f0 F D V w ρ Z k) (hu:∀ (j:Nat) (e:Ent E.N),a.a0V[j]?=some e->F.a0V[j]?=some e) (hd:∀ j,bit ms i j=true->D j=true):n6 (dHy (bit ms i) 0 a.a0V) :=
 b3e fun j e h1 h2=>(hj.ent j e (hu j e h1) (hd j (by simp_all))).1
theorem a7i.turn {e:Ent E.N} {j:Nat} {v:Value} (h:a7i E ρ Z w D V j e) (t:Tn ρ Z w ρ' Z' w') (hi:D i=false) (hj:D j=true):a7i E ρ' Z' w' (a27 D i) (U5 V i v) j e:=by
 have ne:∀ {x},D x=true->x≠i:=fun hx e=>by simp_all
 refine ⟨h.1,?_⟩
 have h2:=h.2
 split at h2
 . rename_i hg
   rw [a2v (ne hj)]; exact t.rep h2
 . rename_i jj dj b hg
   rw [a2v (ne hj),a2v (ne h2.1),M7 (ne h2.1)]
   exact ⟨h2.1,fun e=>t.rep (h2.2.1 e),h2.2.2⟩
end
end Go.Rx
end
section
namespace Go.Rx
open Go Go.Wk Go.Wl
section
variable {E:Env} {C C':Ctx} {n:Nat} {l:List Oper} {ms:List Nat} {H:O8} {f0:Fr} {st0:E.St} {fx:o7 E.N} {lkd lkd':a7 E.N} {F a:DA E.N} {D:Nat->Bool} {V:Nat->Value} {w w':World} {ρ ρ':r9} {Z Z':Nat->Prop} {i k m:Nat} {g:Fr} {its:a7 E.N} {nx:Nat}
theorem c7n {α:Type} {b:Bool} {o:Option α} {r:α} (h:(bif b then none else o)=some r):b=false/\o=some r:=by
 grind
theorem b1q:∀ {a0O:List Nat} {r:Nat},r<W1 ms i a0O->∃ e,a0O[r]?=some e/\bit ms i e=true
 | [],_,h=>by simp [W1] at h
 | e::s,r,h=>by
  unfold W1 at h
  cases hb:bit ms i e with
  | false=>simp_all
  | true =>
   rw [hb,b4G] at h
   cases r with
   | zero=>simp_all
   | succ r=>obtain ⟨e',h1,h2⟩:=b1q (a0O:=s) (r:=r) (by omega); simp_all
theorem c5z {a0O:List Nat} (h:a0O.Pairwise (· < ·)) {r s e:Nat} (hr:a0O[r]?=some e) (hs:a0O[s]?=some e):r=s:=by
 rw [b7N] at h
 grind
theorem c6h (hj:JI E C fx lkd st0 f0 F D V w ρ Z k) (hF:WA E l H m F) (hu:Up a F i) (hdep:∀ j,bit ms i j=true->D j=true) (hsucc:∀ j,bit ms j i=true->D j=false) {m0 mk:a7 E.N×Nat} (hm0:a.a1S[W1 ms i a.a0O]?=some m0) (hmk:F.a1S[k]?=some mk) :
  (n9 m0.1 (shut ms H i (a.a0O.take (W1 ms i a.a0O)))).Sublist mk.1:=by
 have hlo:W1 ms i a.a0O<=k:=by
  rcases b5N k (W1 ms i a.a0O) with h | h
  . obtain ⟨e,h1,h2⟩:=b1q h
    have:=(hj.eff k e (hu.eff h1)).1 (hdep e h2)
    omega
  . exact h
 have key:∀ t mr,F.a1S[W1 ms i a.a0O+t]?=some mr->W1 ms i a.a0O+t<=k->(n9 m0.1 (shut ms H i (a.a0O.take (W1 ms i a.a0O)))).Sublist mr.1:=by
  intro t
  induction t with
  | zero =>
   intro mr hr _
   have:=hu.mem hm0
   rw [b5Q,this] at hr
   cases hr
   exact List.filter_sublist
  | succ t ih =>
   intro mr hr hk
   have hl:=B8 hr
   obtain ⟨m1,hm1⟩:∃ m1,F.a1S[W1 ms i a.a0O+t]?=some m1:=⟨_,b3T (by omega)⟩
   have hl2:W1 ms i a.a0O+t<F.a0O.length:=by have:=hF.a6L; omega
   obtain ⟨e,he⟩:∃ e,F.a0O[W1 ms i a.a0O+t]?=some e:=⟨_,b3T hl2⟩
   obtain ⟨T,new,hT,hnew⟩:=hF.chain _ e m1 mr he hm1 hr
   have hs:=ih m1 hm1 (by omega)
   have hDe:D e=true:=(hj.eff _ e he).2 (by omega)
   have hTX:∀ t∈T,t∈shut ms H i (a.a0O.take (W1 ms i a.a0O)):=fun t ht=>by
    obtain ⟨x,hx,_⟩:=v6 hT
    unfold shut
    rw [c0B]
    refine ⟨(e,T),b4S hx,?_⟩
    have h1:bit ms e i=false:=by
     cases hb:bit ms e i with
     | false=>rfl
     | true=>simp_all
    have h2:(a.a0O.take (W1 ms i a.a0O)).elem e=false:=by
     cases hb:(a.a0O.take (W1 ms i a.a0O)).elem e with
     | false=>rfl
     | true =>
      exfalso
      have hb:=List.mem_of_elem_eq_true hb
      obtain ⟨r,hr1,hr2⟩:=b4I hb
      simp only [b3U] at hr1
      rw [b8W] at hr2
      have hr3:a.a0O[r]?=some e:=by rw [b3T (by omega),hr2]
      have:=c5z hF.up (hu.eff hr3) he
      omega
    simp_all
   rw [hnew,<- b02 hTX]
   exact List.Sublist.trans (List.Sublist.filter _ hs) (List.sublist_append_right _ _)
 have:=key (k-W1 ms i a.a0O) mk (by simp_all) (by omega)
 exact this
theorem JI.quiet (hj:JI E C fx lkd st0 f0 F D V w ρ Z k) (hF:WA E l H m F) (hH:lk H i=none) (hDi:D i=false) (x:Ext [] w w') {e:Ent E.N} (he:F.a0V[i]?=some e) {v:Value} (ho:a7i E ρ Z w' (a27 D i) (U5 V i v) i e):JI E C fx lkd st0 f0 F (a27 D i) (U5 V i v) w' ρ Z k:=by
 obtain ⟨mm,hm,hmem⟩:=hj.mem
 obtain ⟨m1,t⟩:=hmem.a7R x
 refine ⟨fun r e' hr=>?_,⟨mm,hm,m1⟩,hj.tn.trans t,fun k s h=>t.rep (hj.sl k s h),fun p hp=>t.rep (hj.fx p hp),fun j e' hj' hD=>?_,hj.g⟩
 . obtain ⟨_,T,hT⟩:=hF.eff e' (b4S hr)
   rw [M7 (fun e2=>by simp_all)]
   exact hj.eff r e' hr
 . by_cases e2:j=i
   . simp_all
   . rw [M7 e2] at hD
     exact (hj.ent j e' hj' hD).turn t hDi hD
theorem c94 {b:Option Bool} {q0:Option (Q1 E.N)} {q:Q1 E.N} (h:frc b q0=some q):∃ q1,q0=some q1/\q.hy=q1.hy/\(n6 q.ob->n6 q1.ob/\∀ {ρ:r9} {Z:Nat->Prop} {w:World} {v:Value},Rep E.N E.T ρ Z w v q1.v->Rep E.N E.T ρ Z w v q.v):=by
 unfold frc at h
 cases b with
 | none=>simp_all
 | some b =>
  simp only at h
  cases q0 with
  | none=>cases h
  | some q1 =>
   simp only at h
   split at h
   . rename_i p d hp
     simp only [b3N] at h
     subst h
     refine ⟨q1,rfl,rfl,fun ho=>?_⟩
     have key:∀ {l:List Prop} {x:Prop},n6 (l++[x])->n6 l/\x:=fun {l x}=>by
      induction l with
      | nil=>exact fun h=>⟨trivial,h.1⟩
      | cons y l ih=>exact fun h=>⟨⟨h.1,(ih h.2).1⟩,(ih h.2).2⟩
     obtain ⟨h1,h2⟩:=key ho
     refine ⟨h1,fun r=>?_⟩
     generalize q1.v=u at hp r
     cases u with
     | tt =>
      cases hp
      simp_all
     | ff =>
      cases hp
      simp_all
     | bl p' d' =>
      cases hp
      cases r
      cases b with
      | true=>rw [b4R (show p from h2)]; exact .tt
      | false=>rw [b5K (show ¬ p from h2)]; exact .ff
     | _=>cases hp
   . cases h
theorem c5e (hE:l7 E) {o:Oper} {e:Ent E.N} {ob:List Prop} (hf:a0k fx l=true) (hq:a7t n fx lkd l ms H st0 i o a=some (ob,e)) (hH:lk H i=none)
  (hob:im (dHy (bit ms i) 0 a.a0V) (n6 ob)) (hw:WA E l H i a) (hF:WA E l H m F) (hu:Up a F i) (he:F.a0V[i]?=some e):c88 E.P n l ms (JF E C fx lkd st0 f0 F) f0 i o:=by
 intro D V g w hJ hDi hdep hsucc hdone hkept
 obtain ⟨ρ,Z,k,hj⟩:=hJ
 have hob:=T0 hob (hj.hys (fun j e h=>hu.ent h) hdep)
 unfold a7t at hq
 split at hq
 . cases hq
 rename_i m0 hm0
 have h2:=j7 hq
 clear hq
 obtain ⟨hfr,hq⟩:=h2
 obtain ⟨mk,hmk,hmem⟩:=hj.mem
 have hR:=hj.rel hf hw (fun j e h=>hu.ent h) hdep hdone hkept (C':=C) (hmem.sub ((c6h hj hF hu hdep hsucc hm0 hmk).append_right lkd) (hF.nx mk (b4S hmk))) hj.tn hj.g
 obtain ⟨dst,op,ty,pos,after,guard⟩:=o
 cases guard with
 | none =>
  simp only at hq hfr
  split at hq
  . rename_i q d hgop0
    simp only [b3N,b4P] at hq
    obtain ⟨rfl,rfl⟩:=hq
    obtain ⟨q1,hgop,hhy,hconv⟩:=c94 hgop0
    obtain ⟨hob,hconv⟩:=hconv hob
    exact c9e hE hR a1c.nil hgop hob (G6 hfr).1 fun v w' x hr hy=>b8 ⟨rfl,v,rfl,ρ,Z,k,hj.quiet hF hH hDi x he ⟨by simp_all,by show Rep E.N E.T ρ Z w' (U5 V i v i) q.v; rw [T9]; simp_all⟩⟩
  . cases hq
 | some jb =>
  obtain ⟨j,b⟩:=jb
  simp only at hq hfr
  split at hq
  . rename_i dj hdj
    have h2:=j7 hq
    clear hq
    obtain ⟨hb,hq⟩:=h2
    simp only [b3R] at hb
    obtain ⟨hbj,hnj⟩:=hb
    have hDj:=hdep j hbj
    have hji:j≠i:=fun e=>by simp_all
    have hgj:=hdone j dj hDj hdj
    split at hq
    . rename_i p q d hs
      simp only [b3N,b4P] at hq
      obtain ⟨rfl,rfl⟩:=hq
      unfold b65 at hs
      split at hs
      . rename_i p1 dp q1 d1 hg ho1
        have h2:=c7n hs
        clear hs
        have hs:=h2.2
        simp only [b3N,b4P] at hs
        obtain ⟨rfl,rfl,rfl⟩:=hs
        obtain ⟨g1,g2⟩:=a4n hR 8 dj b p1 dp hg
        by_cases hp:p1
        . have e1:=g1.1 hp
          refine L5 hdj hnj e1 (c9e hE hR (a4z hR 8 dj b e1) ho1 (c0u hp hob) (G6 hfr).1 fun v w' x hr hy=>b8 ⟨rfl,v,rfl,ρ,Z,k,hj.quiet hF hH hDi x he ⟨a7e fun _=>hy,?_⟩⟩)
          show a27 D i j=true/\(U5 V i v j=.bool b->Rep E.N E.T ρ Z w' (U5 V i v i) q1.v)/\(U5 V i v j≠.bool b->U5 V i v i=undef)
          rw [M7 hji,a2v hji,T9,<- hgj]
          simp_all
        . have e1:=g2 hp
          have ho:a7i E ρ Z w (a27 D i) (U5 V i undef) i ⟨some d1,some (j,dj,b),q1.v,imp p1 q1.hy⟩:=by
           refine ⟨a7e fun h=>absurd h hp,?_⟩
           show a27 D i j=true/\(U5 V i undef j=.bool b->Rep E.N E.T ρ Z w (U5 V i undef i) q1.v)/\(U5 V i undef j≠.bool b->U5 V i undef i=undef)
           rw [M7 hji,a2v hji,T9,<- hgj]
           exact ⟨hDj,fun h=>absurd (g1.2 h) hp,fun _=>rfl⟩
          have fin:=hj.quiet hF hH hDi (Ext.refl [] w) he ho
          rcases e1 with e1 | e1
          . exact L4 hdj hnj (G6 hfr).1 e1 (b8 ⟨rfl,undef,rfl,ρ,Z,k,fin⟩)
          . exact a6w hdj hnj (G6 hfr).1 e1 (b8 ⟨rfl,undef,rfl,ρ,Z,k,fin⟩)
      . cases hs
    . cases hq
  . cases hq
theorem b4b {s:E.SV} {b:Bool} {v:Value} (h:c0p s b=true) (r:Rep E.N E.T ρ Z w v s):v=.bool (!b):=by
 cases s with
 | tt =>
  cases b with
  | false=>cases r; rfl
  | true=>cases h
 | ff =>
  cases b with
  | true=>cases r; rfl
  | false=>cases h
 | _=>cases h
theorem d1f {o:Oper} {e:Ent E.N} (hq:b6n n l ms i o a=some e) (hH:lk H i=none) (hF:WA E l H m F) (hu:Up a F i) (he:F.a0V[i]?=some e):c88 E.P n l ms (JF E C fx lkd st0 f0 F) f0 i o:=by
 intro D V g w hJ hDi hdep hsucc hdone hkept
 obtain ⟨ρ,Z,k,hj⟩:=hJ
 obtain ⟨dst,op,ty,pos,after,guard⟩:=o
 unfold b6n at hq
 split at hq
 . rename_i j b d hg hd
   simp only at hg hd
   subst hg hd
   split at hq
   . rename_i dj ej hdj hej
     have ⟨hb,hq2⟩:=j7 hq
     clear hq
     simp only [b3R] at hb
     obtain ⟨⟨⟨hbj,hnj⟩,hnd⟩,hoff⟩:=hb
     simp only [b3N] at hq2
     subst hq2
     have hDj:=hdep j hbj
     have hji:j≠i:=fun e=>by simp_all
     have hgj:=hdone j dj hDj hdj
     have hoj:=(hj.ent j ej (hu.ent hej) hDj).2
     have hv:g dj=.bool (!b) ∨ g dj=undef:=by
      rw [hgj]
      unfold e4w at hoff
      split at hoff
      . rename_i hsv
        split at hoj
        . rw [hsv] at hoj
          generalize V j=u at hoj
          cases hoj; simp_all
        simp_all
      . split at hoj
        . exact .inl (b4b hoff hoj)
        . rename_i jj dj' b' _
          by_cases e:V jj=.bool b'
          . exact .inl (b4b hoff (hoj.2.1 e))
          simp_all
     have ho:a7i E ρ Z w (a27 D i) (U5 V i undef) i (⟨some d,none,.undef,[]⟩:Ent E.N):=⟨trivial,by
      show Rep E.N E.T ρ Z w (U5 V i undef i) .undef
      rw [T9]; exact .undef⟩
     have fin:=hj.quiet hF hH hDi (Ext.refl [] w) he ho
     rcases hv with e1 | e1
     . exact L4 hdj hnj hnd e1 (b8 ⟨rfl,undef,rfl,ρ,Z,k,fin⟩)
     . exact a6w hdj hnj hnd e1 (b8 ⟨rfl,undef,rfl,ρ,Z,k,fin⟩)
   . cases hq
 . cases hq
end
end Go.Rx
end
section
namespace Go.Rx
open Go Go.Wk Go.Wl
section
variable {E:Env} {C C':Ctx} {n:Nat} {l:List Oper} {ms:List Nat} {H:O8} {f0:Fr} {st0:E.St} {fx:o7 E.N} {lkd lkd':a7 E.N} {F a:DA E.N} {D:Nat->Bool} {V:Nat->Value} {w w':World} {ρ ρ':r9} {Z Z':Nat->Prop} {i k m:Nat} {g:Fr} {its:a7 E.N} {nx:Nat}
theorem e0x (hE:l7 E) {o:Oper} {e:Ent E.N} {ob:List Prop} {T:List Nat} {mm:a7 E.N×Nat} (hf:a0k fx l=true) (hq:c84 n fx lkd l ms st0 i o a T=some (ob,e,mm))
  (hob:im (dHy (bit ms i) 0 a.a0V) (n6 ob)) (hw:WA E l H i a) (hF:WA E l H m F) (hu:Up a F i) (he:F.a0V[i]?=some e) (hei:F.a0O[a.a0O.length]?=some i) (hmm:F.a1S[a.a0O.length+1]?=some mm):c88 E.P n l ms (JF E C fx lkd st0 f0 F) f0 i o:=by
 intro D V g w hJ hDi hdep hsucc hdone hkept
 obtain ⟨ρ,Z,k,hj⟩:=hJ
 have hob:=T0 hob (hj.hys (fun j e h=>hu.ent h) hdep)
 obtain ⟨mk,hmk,hmem⟩:=hj.mem
 obtain ⟨dst,op,ty,pos,after,guard⟩:=o
 unfold c84 at hq
 split at hq
 . rename_i m0 hm0
   have h2:=j7 hq
   clear hq
   obtain ⟨hb,hq⟩:=h2
   simp only [b3R] at hb
   obtain ⟨hfr,hall⟩:=hb
   simp only at hfr hq
   split at hq
   case h_2=>cases hq
   rename_i gg ch hdg
   have hk:k=a.a0O.length:=by
    rcases Nat.lt_trichotomy k a.a0O.length with c | c | c
    . exfalso
      obtain ⟨e',he'⟩:∃ e',a.a0O[k]?=some e':=⟨_,b3T c⟩
      rw [b5A] at hall
      have:=(hj.eff k e' (hu.eff he')).1 (hdep e' (hall e' (b4S he')))
      omega
    . exact c
    . exfalso
      have:=(hj.eff _ i hei).2 c
      simp_all
   subst hk
   have:=hu.mem hm0
   rw [this] at hmk; cases hmk
   split at hq
   . rename_i s hs
     have h2:=j7 hq
     clear hq
     obtain ⟨_,hq⟩:=h2
     simp only [b3N,b4P] at hq
     obtain ⟨rfl,rfl,rfl⟩:=hq
     have hR:=hj.rel hf hw (fun j e h=>hu.ent h) hdep hdone hkept (C':=C.at ρ Z w) (its:=within mk.1 T) (lkd':=n9 mk.1 T++lkd) (nx:=mk.2) (hmem.down.perm (by rw [<- b4L]; exact (a3f mk.1 T).append_right lkd)) (Tn.refl _ _ _) (a0w.turn hj.g hj.tn)
     have hgg:∃ hG:a1c g ch,n6 s.ob/\∀ {Q:Exit->Fr->World->Prop},WL E.P false n l Q [⟨dst,op,ty,pos,after,none⟩] g w->WL E.P false n l Q [⟨dst,op,ty,pos,after,guard⟩] g w:=by
      unfold dG at hdg
      cases guard with
      | none =>
       simp only [b3N,b4P] at hdg
       obtain ⟨rfl,rfl⟩:=hdg
       exact ⟨a1c.nil,hob,fun h=>h⟩
      | some jb =>
       obtain ⟨j,b⟩:=jb
       simp only at hdg
       split at hdg
       . rename_i dj hdj
         have h3:=j7 hdg
         clear hdg
         obtain ⟨hb3,hdg⟩:=h3
         simp only [b3R] at hb3
         obtain ⟨⟨_,hnj⟩,_⟩:=hb3
         split at hdg
         . rename_i p dp hgp
           simp only [b3N,b4P] at hdg
           obtain ⟨rfl,rfl⟩:=hdg
           have hob2:p/\n6 s.ob:=hob
           have e1:=(a4n hR 8 dj b p dp hgp).1.1 hob2.1
           exact ⟨a4z hR 8 dj b e1,hob2.2,fun h=>L5 hdj hnj e1 h⟩
         . cases hdg
       . cases hdg
     obtain ⟨hG,hob,hon⟩:=hgg
     refine hon (d2u hE hR hG hfr hs hob fun v ρ' Z' w' hr hy=>b8 ⟨rfl,v,rfl,ρ',Z',a.a0O.length+1,?_⟩)
     have t:Tn ρ Z w ρ' Z' w':=hr.tn
     have hM:=Mem.upC hmem hr.mem
     refine ⟨fun r e' hr'=>?_,⟨_,hmm,?_⟩,hj.tn.trans t,fun k s h=>t.rep (hj.sl k s h),fun p hp=>t.rep (hj.fx p hp),fun j e' hj' hD=>?_,hj.g⟩
     . rcases Nat.lt_trichotomy r a.a0O.length with c | c | c
       . have h1:=hj.eff r e' hr'
         have hne:e'≠i:=fun e2=>by simp_all
         rw [M7 hne,h1]; omega
       . subst c
         rw [hei] at hr'; cases hr'
         rw [a2r]; simp
       . have h1:=hj.eff r e' hr'
         have hne:e'≠i:=fun e2=>by subst e2; have:=c5z hF.up hr' hei; omega
         rw [M7 hne,h1]; omega
     . rw [b4L]
       cases dst with
       | none=>exact hM
       | some d=>exact hM
     . by_cases e2:j=i
       . subst e2; rw [he] at hj'; cases hj'
         refine ⟨hy,?_⟩
         show Rep E.N E.T ρ' Z' w' (U5 V j v j) _
         rw [T9]
         cases dst with
         | none=>exact .un
         | some d =>
          have:=hr.sl d s.v (by show lk ((d,s.v)::_) d=_; rw [H4,if_pos rfl])
          rw [show M0 g (some d) v d=v from a50] at this
          exact this
       . rw [M7 e2] at hD
         exact (hj.ent j e' hj' hD).turn t hDi hD
   . cases hq
 . cases hq
theorem WA.quiet {o:Oper} {e:Ent E.N} {ob:List Prop} (hw:WA E l H i a) (ho:l[i]?=some o) (hq:a7t n fx lkd l ms H st0 i o a=some (ob,e)):WA E l H (i+1) ⟨a.a0V++[e],a.a0O,a.a1S⟩:=by
 have hent:o.dst=e.dst/\∀ jj dj b,e.g=some (jj,dj,b)->q8 l jj=some dj:=by
  unfold a7t at hq
  split at hq
  . cases hq
  have h2:=j7 hq
  clear hq
  obtain ⟨_,hq⟩:=h2
  split at hq
  . grind
  . rename_i j b hg
    split at hq
    . rename_i dj hdj
      have h2:=j7 hq
      clear hq
      obtain ⟨_,hq⟩:=h2
      split at hq
      . rename_i p q d hs
        simp only [b3N,b4P] at hq
        obtain ⟨_,rfl⟩:=hq
        refine ⟨?_,fun jj dj' b' h=>by simp_all⟩
        unfold b65 at hs
        grind
      . cases hq
    . cases hq
 refine ⟨by simp [hw.len],fun j e' hj=>?_,fun e' h=>⟨by have:=(hw.eff e' h).1; omega,(hw.eff e' h).2⟩,hw.up,hw.a6L,hw.chain,hw.nx⟩
 have hl:=hw.len
 by_cases c:j<a.a0V.length
 . have hj:(a.a0V++[e])[j]?=some e':=hj
   rw [b3Z c] at hj; exact hw.ent j e' hj
 . have hj:(a.a0V++[e])[j]?=some e':=hj
   rw [b4A (by omega)] at hj
   have:j-a.a0V.length=0:=by have:=B8 hj; simp at this; omega
   rw [this] at hj; cases hj
   have:j=i:=by omega
   subst this
   exact ⟨by rw [M1 ho]; exact hent.1,hent.2⟩
theorem WA.put {o:Oper} {e:Ent E.N} (hw:WA E l H i a) (ho:l[i]?=some o) (hent:o.dst=e.dst/\∀ jj dj b,e.g=some (jj,dj,b)->q8 l jj=some dj):WA E l H (i+1) ⟨a.a0V++[e],a.a0O,a.a1S⟩:=by
 refine ⟨by simp [hw.len],fun j e' hj=>?_,fun e' h=>⟨by have:=(hw.eff e' h).1; omega,(hw.eff e' h).2⟩,hw.up,hw.a6L,hw.chain,hw.nx⟩
 have hl:=hw.len
 by_cases c:j<a.a0V.length
 . have hj:(a.a0V++[e])[j]?=some e':=hj
   rw [b3Z c] at hj; exact hw.ent j e' hj
 . have hj:(a.a0V++[e])[j]?=some e':=hj
   rw [b4A (by omega)] at hj
   have:j-a.a0V.length=0:=by have:=B8 hj; simp at this; omega
   rw [this] at hj; cases hj
   have:j=i:=by omega
   subst this
   exact ⟨by rw [M1 ho]; exact hent.1,hent.2⟩
theorem WA.dead {o:Oper} {e:Ent E.N} (hw:WA E l H i a) (ho:l[i]?=some o) (hq:b6n n l ms i o a=some e):WA E l H (i+1) ⟨a.a0V++[e],a.a0O,a.a1S⟩:=by
 refine hw.put ho ?_
 unfold b6n at hq
 grind
theorem WA.a0O {o:Oper} {e:Ent E.N} {ob:List Prop} {T:List Nat} {mm:a7 E.N×Nat} (hw:WA E l H i a) (ho:l[i]?=some o) (hH:lk H i=some T) (hq:c84 n fx lkd l ms st0 i o a T=some (ob,e,mm)):WA E l H (i+1) ⟨a.a0V++[e],a.a0O++[i],a.a1S++[mm]⟩:=by
 have hent:o.dst=e.dst/\e.g=none/\mm.2<=NX/\∃ m0 new,a.a1S[a.a0O.length]?=some m0/\mm.1=new++n9 (E:=E) m0.1 T:=by
  unfold c84 at hq
  split at hq
  . rename_i m0 hm0
    have h2:=j7 hq
    clear hq
    obtain ⟨_,hq⟩:=h2
    split at hq
    case h_2=>cases hq
    split at hq
    . rename_i s hs
      have h2:=j7 hq
      clear hq
      obtain ⟨hn,hq⟩:=h2
      simp only [b3N,b4P] at hq
      obtain ⟨rfl,rfl,rfl⟩:=hq
      simp_all
    . cases hq
  . cases hq
 obtain ⟨h1,h2,h3,m0,new,h4,h5⟩:=hent
 have hl:=hw.len
 have hml:=hw.a6L
 refine ⟨by simp [hw.len],fun j e' hj=>?_,fun e' h=>?_,?_,by simp [hml],fun r e' m m' he hm hm'=>?_,fun m h=>?_⟩
 . have hj:(a.a0V++[e])[j]?=some e':=hj
   by_cases c:j<a.a0V.length
   . rw [b3Z c] at hj; exact hw.ent j e' hj
   . rw [b4A (by omega)] at hj
     have:j-a.a0V.length=0:=by have:=B8 hj; simp at this; omega
     rw [this] at hj; cases hj
     have:j=i:=by omega
     subst this
     exact ⟨by rw [M1 ho]; exact h1,fun jj dj b h=>by simp_all⟩
 . have h:e'∈a.a0O++[i]:=h
   rw [b5Y,b4U] at h
   rcases h with h | rfl
   . exact ⟨by have:=(hw.eff e' h).1; omega,(hw.eff e' h).2⟩
   simp_all
 . show (a.a0O++[i]).Pairwise (· < ·)
   rw [List.pairwise_append]
   refine ⟨hw.up,List.pairwise_singleton _ _,fun x hx y hy=>?_⟩
   rw [b4U] at hy; subst hy
   exact (hw.eff x hx).1
 . have he:(a.a0O++[i])[r]?=some e':=he
   have hm:(a.a1S++[mm])[r]?=some m:=hm
   have hm':(a.a1S++[mm])[r+1]?=some m':=hm'
   by_cases c:r<a.a0O.length
   . rw [b3Z c] at he
     rw [b3Z (by omega)] at hm hm'
     exact hw.chain r e' m m' he hm hm'
   grind
 . have h:m∈a.a1S++[mm]:=h
   rw [b5Y,b4U] at h
   rcases h with h | rfl
   . exact hw.nx m h
   . exact h3
theorem b41 (hE:l7 E) (hf:a0k fx l=true) {K:DA E.N->Prop}:∀ (r:List Oper) (i:Nat) (a:DA E.N),(∀ x,r[x]?=l[i+x]?)->WA E l H i a->dGo n fx lkd l ms H st0 K i r a->∃ F,WA E l H (i+r.length) F/\Up a F i/\a3d E.P n l ms (JF E C fx lkd st0 f0 F) f0 i r/\K F
 | [],i,a,_,hw,h=>⟨a,hw,⟨⟨[],by simp⟩,⟨[],by simp,fun e h=>by cases h⟩,⟨[],by simp⟩⟩,.nil,h⟩
 | o::r,i,a,hr,hw,h=>by
  have ho:l[i]?=some o:=by have:=hr 0; simpa using this.symm
  have hr':∀ x,r[x]?=l[i+1+x]? := fun x=>by have:=hr (x+1); grind
  unfold dGo at h
  rw [e0p] at h
  split at h
  . rename_i ob a' hone
    have ⟨hob,hgo⟩:im (dHy (bit ms i) 0 a.a0V) (n6 ob)/\dGo n fx lkd l ms H st0 K (i+1) r a':=by
     cases hb:ob.isEmpty with
     | true=>rw [hb,b4G] at h; rw [List.isEmpty_iff.1 hb]; exact ⟨b69 fun _=>trivial,h⟩
     | false=>rw [hb,b4X] at h; exact ⟨b69 fun hy=>c24 (T0 h.1 hy),h.2⟩
    unfold e4g at hone
    split at hone
    . rename_i hH
      split at hone
      . rename_i e hq
        simp only [b3N,b4P] at hone
        obtain ⟨rfl,rfl⟩:=hone
        obtain ⟨F,hF,hu,hs,hK⟩:=b41 hE hf r (i+1) _ hr' (hw.dead ho hq) hgo
        have he:F.a0V[i]?=some e:=hu.ent (by show (a.a0V++[e])[i]?=_; rw [b4A (by have:=hw.len; omega),hw.len,b8P]; rfl)
        have hu':Up a F i:=by
         obtain ⟨⟨x,hx⟩,⟨y,hy,hy'⟩,hz⟩:=hu
         exact ⟨⟨[e]++x,by rw [hx]; simp⟩,⟨y,hy,fun e h=>by grind⟩,hz⟩
        exact ⟨F,by grind,hu',.cons (d1f hq hH hF hu' he) hs,hK⟩
      . split at hone
        . rename_i ob1 e hq
          simp only [b3N,b4P] at hone
          obtain ⟨rfl,rfl⟩:=hone
          obtain ⟨F,hF,hu,hs,hK⟩:=b41 hE hf r (i+1) _ hr' (hw.quiet ho hq) hgo
          have he:F.a0V[i]?=some e:=hu.ent (by show (a.a0V++[e])[i]?=_; rw [b4A (by have:=hw.len; omega),hw.len,b8P]; rfl)
          have hu':Up a F i:=by
           obtain ⟨⟨x,hx⟩,⟨y,hy,hy'⟩,hz⟩:=hu
           exact ⟨⟨[e]++x,by rw [hx]; simp⟩,⟨y,hy,fun e h=>by grind⟩,hz⟩
          exact ⟨F,by grind,hu',.cons (c5e hE hf hq hH hob hw hF hu' he) hs,hK⟩
        . cases hone
    . rename_i T hH
      split at hone
      . rename_i ob1 e mm hq
        simp only [b3N,b4P] at hone
        obtain ⟨rfl,rfl⟩:=hone
        obtain ⟨F,hF,hu,hs,hK⟩:=b41 hE hf r (i+1) _ hr' (hw.a0O ho hH hq) hgo
        have he:F.a0V[i]?=some e:=hu.ent (by show (a.a0V++[e])[i]?=_; rw [b4A (by have:=hw.len; omega),hw.len,b8P]; rfl)
        have hei:F.a0O[a.a0O.length]?=some i:=hu.eff (by simp_all)
        have hmm:F.a1S[a.a0O.length+1]?=some mm:=hu.mem (by show (a.a1S++[mm])[a.a0O.length+1]?=_; rw [<- hw.a6L,b4A (b4H _),b8P]; rfl)
        have hu':Up a F i:=by
         obtain ⟨⟨x,hx⟩,⟨y,hy,hy'⟩,⟨z,hz⟩⟩:=hu
         refine ⟨⟨[e]++x,by rw [hx]; simp⟩,⟨[i]++y,by rw [hy]; simp,fun e h=>?_⟩,⟨[mm]++z,by rw [hz]; simp⟩⟩
         rw [b5Y,b4U] at h
         rcases h with h | h
         . omega
         . grind
        exact ⟨F,by grind,hu',.cons (e0x hE hf hq hob hw hF hu' he hei hmm) hs,hK⟩
      . cases hone
  simp_all
theorem a3m {g g':Fr}:∀ {ks:List Nat} {k:Nat},k∈ks->a0p g' (ks.map fun k=>(k,g k)) k=g k
 | x::r,k,h=>by
  show upd (a0p g' (r.map fun k=>(k,g k))) x (g x) k=g k
  by_cases e:x=k
  . subst e; exact a50
  . rw [Y2 e]
    rcases b4D.1 h with h | h
    . omega
    . exact a3m h
theorem b5s {g:Fr}:∀ {ks:List Nat},M5 g (ks.map fun k=>(k,g k))
 | []=>trivial
 | _::_=>⟨rfl,b5s⟩
theorem c2f (hE:l7 E) {id:Nat} {f:Fr} {K:E.St->Prop} {Q:Exit->Fr->World->Prop} (h:Rel E C fx lkd st0 ρ Z f w) {H0:O8} (hv:b9j n fx lkd l st0 H0 K) (hQ:∀ st' ρ' Z' f' w',Rel E C fx lkd st' ρ' Z' f' w'->K st'->Q .normal f' w'):W E.P n (.region id l.toArray true) Q f w:=by
 unfold b9j at hv
 cases hb:(K6 l && a97 l [] && b18 (b3p l) n l && a0k fx l && Nat.ble st0.nx NX) with
 | false=>simp_all
 | true =>
  rw [hb,b4G,c56,b2y,d0q] at hv
  rw [b3R,b3R] at hb
  obtain ⟨⟨ha,hf⟩,hn⟩:=hb
  obtain ⟨F,hF,hu,hs,hK⟩:=b41 (C:=C) (f0:=f) hE hf l 0 _ (fun x=>by simp) ⟨rfl,fun j e h=>by simp at h,fun e h=>(by cases h),List.Pairwise.nil,rfl,fun r e m m' h=>by simp at h,fun m h=>by
   simp_all⟩ hv
  rw [b6J] at hF
  refine L8 (JF E C fx lkd st0 f F) (b3p l) hE.mixed ha (b15 l) rfl (fun V=>⟨ρ,Z,0,fun r e _=>by simp,⟨_,hu.mem (j:=0) rfl,h.mem⟩,h.tn,h.sl,h.fx,fun j e _ hD=>(by cases hD),h.g⟩) hs fun D V g w' hD hJ hdone hkept=>?_
  obtain ⟨ρ',Z',k,hj⟩:=hJ
  obtain ⟨mk,hmk,hmem⟩:=hj.mem
  have hk:k=F.a0O.length:=by
   rcases b5N k F.a0O.length with c | c
   . exfalso
     obtain ⟨e,he⟩:∃ e,F.a0O[k]?=some e:=⟨_,b3T c⟩
     have h1:=(hF.eff e (b4S he)).1
     have:=(hj.eff k e he).1 (hD e (by simp_all))
     omega
   . have:=B8 hmk
     have:=hF.a6L
     omega
  subst hk
  unfold e2z at hK
  rw [hmk] at hK
  simp only at hK
  have hlen:∀ {j:Nat} {e:Ent E.N},F.a0V[j]?=some e->Nat.blt j l.length=true:=fun {j e} he=>by have:=B8 he; rw [hF.len] at this; simp_all
  have hK:=T0 hK (b3e fun j e h1 _=>(hj.ent j e h1 (hD j (hlen h1))).1)
  have hg:Rel E C fx lkd ⟨Y0 (fun _=>true) 0 F.a0V++st0.slots.filter (fun p=>!(b3p l).elem p.1),[],mk.1,mk.2⟩ ρ' Z' g w':=by
   refine ⟨fun k s hk=>?_,fun p hp=>?_,fun k j' b s hk=>(by cases hk),hmem,hj.tn,hj.g⟩
   . rcases b6s hk with hk | ⟨_,hk⟩
     . obtain ⟨j,e,h1,_,h3,rfl⟩:=a5u hk
       have hg:=hdone j k (hlen h1) (by rw [(hF.ent j e h1).1]; exact h3)
       have ho:=(hj.ent j e h1 (hD j (hlen h1))).2
       unfold Ent.now
       split
       . simp_all
       . exact .un
     . have ⟨h1,h2⟩:=b0l (q:=fun t=>!(b3p l).elem t) hk
       rw [hkept k (by simp_all)]; exact hj.sl k s h2
   . rw [hkept p.1 ?_]
     . exact hj.fx p hp
     . cases hx:(b3p l).elem p.1 with
       | false=>rfl
       | true =>
        exfalso
        have hx:=List.mem_of_elem_eq_true hx
        unfold b3p at hx
        rw [b8L] at hx
        obtain ⟨o,ho,hd⟩:=hx
        unfold a0k at hf
        rw [b5A] at hf
        have:=hf o ho
        rw [hd] at this
        simp only [b7P] at this
        exact a6s this p hp rfl
  generalize hst:(⟨Y0 (fun _=>true) 0 F.a0V++st0.slots.filter (fun p=>!(b3p l).elem p.1),[],mk.1,mk.2⟩:E.St)=stF at hg hK
  refine ⟨((stF.slots++fx).map (·.1)).map fun k=>(k,g k),b5s,fun g'=>hQ stF ρ' Z' _ w' ?_ hK⟩
  refine ⟨fun k s hk=>?_,fun p hp=>?_,fun k j' b s hk=>?_,hg.mem,hg.tn,hg.g⟩
  . obtain ⟨x,hx,_⟩:=v6 hk
    rw [a3m (b5C.2 ⟨_,b6V _ (b4S hx),rfl⟩)]
    exact hg.sl k s hk
  . rw [a3m (b5C.2 ⟨p,b7J _ hp,rfl⟩)]
    exact hg.fx p hp
  . rw [<- hst] at hk; cases hk
theorem a0y (hE:l7 E) {id:Nat} {f:Fr} {K:E.St->Prop} {Q:Exit->Fr->World->Prop} (h:Rel E C fx lkd st0 ρ Z f w) (hQ:∀ st' ρ' Z' f' w',Rel E C fx lkd st' ρ' Z' f' w'->K st'->Q .normal f' w'):∀ (fs:List Nat) (H0:O8),a2p n fx lkd l st0 K fs H0->W E.P n (.region id l.toArray true) Q f w
 | [],H0,hv=>c2f hE h (H0:=H0) hv hQ
 | i::r,H0,hv=>by
  unfold a2p at hv
  split at hv
  . rename_i p _
    by_cases hp:p
    . exact a0y hE h hQ r _ (hv.1 hp)
    . exact a0y hE h hQ r _ (hv.2 hp)
  . exact a0y hE h hQ r _ hv
end
end Go.Rx
end
